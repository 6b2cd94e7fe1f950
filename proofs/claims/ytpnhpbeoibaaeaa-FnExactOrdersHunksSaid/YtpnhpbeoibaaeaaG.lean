import Derived.Test.YtpnhpbeoibaaeaaGB
set_option linter.unusedVariables false
set_option linter.unusedSimpArgs false
set_option linter.unusedSectionVars false
namespace Go.Abs.G
open Go Go.Abs Go.Proofs
noncomputable def laws_szStringS.C : Code := Try.f5.body.getD .skip
def laws_szStringS.P : Par := (.cons (.val (.list .str)) (.cons (.val (.int .i64)) .nil))
noncomputable def laws_szStringS.U : SumTab := []
noncomputable def laws_szStringS.E : Env := mkEnv TY AR laws_szStringS.U
def laws_szStringS.D10 : CutD := ⟨[0, 1, 5], (.cons (.val (.list .str)) (.cons (.val (.int .i64)) (.cons (.val (.int .i64)) .nil)))⟩
noncomputable def laws_szStringS.T : Tab := fun k => look k [(10, laws_szStringS.D10)]
def laws_szStringS.R : List (Nat × Ty) := [(0, .int .i64)]
def laws_szStringS.X : List ResultVar := [.tmp 4]
noncomputable def laws_szStringS.K := fin laws_szStringS.E ⟨laws_szStringS.P, laws_szStringS.R, fun _ _ => none⟩ laws_szStringS.X laws_szStringS.P.len 0
noncomputable def laws_szStringS.l10 (a : List ByteArray) (left : Int) (i : Int) : Option (Int) := fixP laws_szStringS.E laws_szStringS.T laws_szStringS.C laws_szStringS.K 10 laws_szStringS.D10 (a, left, i)
noncomputable def laws_szStringS.f (a : List ByteArray) (left : Int) : Option (Int) := Fn laws_szStringS.E laws_szStringS.T laws_szStringS.C laws_szStringS.P laws_szStringS.R laws_szStringS.X (a, left)
theorem laws_szStringS.l10_eq (a : List ByteArray) (left : Int) (i : Int) : laws_szStringS.l10 a left i =
  (bif (decide (i < (a.length : Int))) then (bif ((decide (0 ≤ i)) && (decide (i < (a.length : Int)))) then (bif (decide ((w64 (left - ((a.getD (i).toNat em).size : Int))) < 0)) then (some (-1)) else
    (laws_szStringS.l10 a (w64 (left - ((a.getD (i).toNat em).size : Int))) (w64 (i + 1)))) else none) else (some left)) :=
  (fixP_eq laws_szStringS.E laws_szStringS.T laws_szStringS.C laws_szStringS.K 10 laws_szStringS.D10 (a, left, i)).trans (by kernel_rfl)
theorem laws_szStringS.f_eq (a : List ByteArray) (left : Int) : laws_szStringS.f a left =
  (bif (decide ((w64 (left - (a.length : Int))) < 0)) then (some (-1)) else
  (laws_szStringS.l10 a (w64 (left - (a.length : Int))) 0)) := by kernel_rfl
noncomputable def laws_szStringS.S : Abs.Sum := ⟨laws_szStringS.P, laws_szStringS.R, fun _ => Fn laws_szStringS.E laws_szStringS.T laws_szStringS.C laws_szStringS.P laws_szStringS.R laws_szStringS.X⟩
theorem laws_szStringS.meets : Meets Try.prog 5 laws_szStringS.S := meets_tab (S := laws_szStringS.U) tabOk_all AllMeets.nil AllStill.nil follows (by kernel_rfl : Try.prog.funcs[5]? = some Try.f5) (by kernel_rfl) (by kernel_rfl) (by kernel_rfl)
noncomputable def laws_toStringS.C : Code := Try.f8.body.getD .skip
def laws_toStringS.P : Par := (.cons (.val (.list .str)) .nil)
noncomputable def laws_toStringS.U : SumTab := []
noncomputable def laws_toStringS.E : Env := mkEnv TY AR laws_toStringS.U
def laws_toStringS.D6 : CutD := ⟨[0, 3, 4], (.cons (.val (.list .str)) (.cons (.own 9 .str) (.cons (.val (.int .i64)) .nil)))⟩
noncomputable def laws_toStringS.T : Tab := fun k => look k [(6, laws_toStringS.D6)]
def laws_toStringS.R : List (Nat × Ty) := [(9, .list .str)]
def laws_toStringS.X : List ResultVar := [.tmp 2]
noncomputable def laws_toStringS.K := fin laws_toStringS.E ⟨laws_toStringS.P, laws_toStringS.R, fun _ _ => none⟩ laws_toStringS.X laws_toStringS.P.len 0
noncomputable def laws_toStringS.l6 (a : List ByteArray) (out : List ByteArray) (i : Int) : Option ((List ByteArray)) := fixP laws_toStringS.E laws_toStringS.T laws_toStringS.C laws_toStringS.K 6 laws_toStringS.D6 (a, out, i)
noncomputable def laws_toStringS.f (a : List ByteArray) : Option ((List ByteArray)) := Fn laws_toStringS.E laws_toStringS.T laws_toStringS.C laws_toStringS.P laws_toStringS.R laws_toStringS.X a
theorem laws_toStringS.l6_eq (a : List ByteArray) (out : List ByteArray) (i : Int) : laws_toStringS.l6 a out i =
  (bif (decide (i < (a.length : Int))) then (bif ((decide (0 ≤ i)) && (decide (i < (a.length : Int)))) then (bif ((decide (0 ≤ i)) && (decide (i < (out.length : Int)))) then (laws_toStringS.l6 a (out.set (i).toNat (a.getD (i).toNat em)) (w64 (i + 1))) else none) else none) else (some out)) :=
  (fixP_eq laws_toStringS.E laws_toStringS.T laws_toStringS.C laws_toStringS.K 6 laws_toStringS.D6 (a, out, i)).trans (by kernel_rfl)
theorem laws_toStringS.f_eq (a : List ByteArray) : laws_toStringS.f a =
  (bif ((decide (0 ≤ (a.length : Int))) && (decide (((a.length : Int)).toNat ≤ room 16))) then (laws_toStringS.l6 a (List.replicate ((a.length : Int)).toNat em) 0) else none) := by kernel_rfl
noncomputable def laws_toStringS.S : Abs.Sum := ⟨laws_toStringS.P, laws_toStringS.R, fun _ => Fn laws_toStringS.E laws_toStringS.T laws_toStringS.C laws_toStringS.P laws_toStringS.R laws_toStringS.X⟩
theorem laws_toStringS.meets : Meets Try.prog 8 laws_toStringS.S := meets_tab (S := laws_toStringS.U) tabOk_all AllMeets.nil AllStill.nil follows (by kernel_rfl : Try.prog.funcs[8]? = some Try.f8) (by kernel_rfl) (by kernel_rfl) (by kernel_rfl)
noncomputable def spec_l1In.C : Code := Try.f31.body.getD .skip
def spec_l1In.P : Par := (.cons (.val (.int .i64)) (.cons (.val (.int .i64)) (.cons (.val (.int .i64)) .nil)))
noncomputable def spec_l1In.U : SumTab := []
noncomputable def spec_l1In.E : Env := mkEnv TY AR spec_l1In.U
noncomputable def spec_l1In.T : Tab := fun k => look k []
def spec_l1In.R : List (Nat × Ty) := [(0, .bool)]
def spec_l1In.X : List ResultVar := [.tmp 6]
noncomputable def spec_l1In.f (n : Int) (lo : Int) (hi : Int) : Option (Bool) := Fn spec_l1In.E spec_l1In.T spec_l1In.C spec_l1In.P spec_l1In.R spec_l1In.X (n, lo, hi)
theorem spec_l1In.f_eq (n : Int) (lo : Int) (hi : Int) : spec_l1In.f n lo hi =
  (bif (decide (n ≥ lo)) then (some (decide (n ≤ hi))) else (some false)) := by kernel_rfl
noncomputable def spec_l1In.S : Abs.Sum := ⟨spec_l1In.P, spec_l1In.R, fun _ => Fn spec_l1In.E spec_l1In.T spec_l1In.C spec_l1In.P spec_l1In.R spec_l1In.X⟩
theorem spec_l1In.meets : Meets Try.prog 31 spec_l1In.S := meets_tab (S := spec_l1In.U) tabOk_all AllMeets.nil AllStill.nil follows (by kernel_rfl : Try.prog.funcs[31]? = some Try.f31) (by kernel_rfl) (by kernel_rfl) (by kernel_rfl)
noncomputable def spec_l1Line.C : Code := Try.f60.body.getD .skip
def spec_l1Line.P : Par := (.cons (.val .str) .nil)
noncomputable def spec_l1Line.U : SumTab := [(31, [], spec_l1In.S)]
noncomputable def spec_l1Line.E : Env := mkEnv TY AR spec_l1Line.U
def spec_l1Line.D4 : CutD := ⟨[0, 3], (.cons (.val .str) (.cons (.val (.int .i64)) .nil))⟩
noncomputable def spec_l1Line.T : Tab := fun k => look k [(4, spec_l1Line.D4)]
def spec_l1Line.R : List (Nat × Ty) := [(0, .bool)]
def spec_l1Line.X : List ResultVar := [.tmp 2]
noncomputable def spec_l1Line.K := fin spec_l1Line.E ⟨spec_l1Line.P, spec_l1Line.R, fun _ _ => none⟩ spec_l1Line.X spec_l1Line.P.len 0
noncomputable def spec_l1Line.l4 (s : ByteArray) (i : Int) : Option (Bool) := fixP spec_l1Line.E spec_l1Line.T spec_l1Line.C spec_l1Line.K 4 spec_l1Line.D4 (s, i)
noncomputable def spec_l1Line.f (s : ByteArray) : Option (Bool) := Fn spec_l1Line.E spec_l1Line.T spec_l1Line.C spec_l1Line.P spec_l1Line.R spec_l1Line.X s
theorem spec_l1Line.l4_eq (s : ByteArray) (i : Int) : spec_l1Line.l4 s i =
  (bif (decide (i < (w64 ((s.size : Int) - 1)))) then (bif ((decide (0 ≤ i)) && (decide (i < (s.size : Int)))) then (bif (decide ((bt s i) = 10)) then (some false) else
    (spec_l1Line.l4 s (w64 (i + 1)))) else none) else
  ((spec_l1In.f (s.size : Int) 1 30).bind fun y1 =>
   some y1)) :=
  (fixP_eq spec_l1Line.E spec_l1Line.T spec_l1Line.C spec_l1Line.K 4 spec_l1Line.D4 (s, i)).trans (by kernel_rfl)
theorem spec_l1Line.f_eq (s : ByteArray) : spec_l1Line.f s =
  (spec_l1Line.l4 s 0) := by kernel_rfl
noncomputable def spec_l1Line.S : Abs.Sum := ⟨spec_l1Line.P, spec_l1Line.R, fun _ => Fn spec_l1Line.E spec_l1Line.T spec_l1Line.C spec_l1Line.P spec_l1Line.R spec_l1Line.X⟩
theorem spec_l1Line.meets : Meets Try.prog 60 spec_l1Line.S := meets_tab (S := spec_l1Line.U) tabOk_all (AllMeets.cons spec_l1In.meets AllMeets.nil) (AllStill.cons (fun _ _ _ => rfl) AllStill.nil) follows (by kernel_rfl : Try.prog.funcs[60]? = some Try.f60) (by kernel_rfl) (by kernel_rfl) (by kernel_rfl)
noncomputable def spec_l1Ends.C : Code := Try.f61.body.getD .skip
def spec_l1Ends.P : Par := (.cons (.val .str) .nil)
noncomputable def spec_l1Ends.U : SumTab := []
noncomputable def spec_l1Ends.E : Env := mkEnv TY AR spec_l1Ends.U
noncomputable def spec_l1Ends.T : Tab := fun k => look k []
def spec_l1Ends.R : List (Nat × Ty) := [(0, .bool)]
def spec_l1Ends.X : List ResultVar := [.tmp 2]
noncomputable def spec_l1Ends.f (s : ByteArray) : Option (Bool) := Fn spec_l1Ends.E spec_l1Ends.T spec_l1Ends.C spec_l1Ends.P spec_l1Ends.R spec_l1Ends.X s
theorem spec_l1Ends.f_eq (s : ByteArray) : spec_l1Ends.f s =
  (bif ((decide (0 ≤ (w64 ((s.size : Int) - 1)))) && (decide ((w64 ((s.size : Int) - 1)) < (s.size : Int)))) then (some (decide ((bt s (w64 ((s.size : Int) - 1))) = 10))) else none) := by kernel_rfl
noncomputable def spec_l1Ends.S : Abs.Sum := ⟨spec_l1Ends.P, spec_l1Ends.R, fun _ => Fn spec_l1Ends.E spec_l1Ends.T spec_l1Ends.C spec_l1Ends.P spec_l1Ends.R spec_l1Ends.X⟩
theorem spec_l1Ends.meets : Meets Try.prog 61 spec_l1Ends.S := meets_tab (S := spec_l1Ends.U) tabOk_all AllMeets.nil AllStill.nil follows (by kernel_rfl : Try.prog.funcs[61]? = some Try.f61) (by kernel_rfl) (by kernel_rfl) (by kernel_rfl)
noncomputable def spec_l1Good.C : Code := Try.f29.body.getD .skip
def spec_l1Good.P : Par := (.cons (.val (.list .str)) .nil)
noncomputable def spec_l1Good.U : SumTab := [(60, [], spec_l1Line.S), (61, [], spec_l1Ends.S)]
noncomputable def spec_l1Good.E : Env := mkEnv TY AR spec_l1Good.U
def spec_l1Good.D4 : CutD := ⟨[0, 5, 6, 7], (.cons (.val (.list .str)) (.cons (.val (.list .str)) (.cons (.val (.int .i64)) (.cons (.val (.int .i64)) .nil))))⟩
noncomputable def spec_l1Good.T : Tab := fun k => look k [(4, spec_l1Good.D4)]
def spec_l1Good.R : List (Nat × Ty) := [(0, .bool)]
def spec_l1Good.X : List ResultVar := [.tmp 2]
noncomputable def spec_l1Good.K := fin spec_l1Good.E ⟨spec_l1Good.P, spec_l1Good.R, fun _ _ => none⟩ spec_l1Good.X spec_l1Good.P.len 0
noncomputable def spec_l1Good.l4 (l : List ByteArray) (t5 : List ByteArray) (t6 : Int) (t7 : Int) : Option (Bool) := fixP spec_l1Good.E spec_l1Good.T spec_l1Good.C spec_l1Good.K 4 spec_l1Good.D4 (l, t5, t6, t7)
noncomputable def spec_l1Good.f (l : List ByteArray) : Option (Bool) := Fn spec_l1Good.E spec_l1Good.T spec_l1Good.C spec_l1Good.P spec_l1Good.R spec_l1Good.X l
theorem spec_l1Good.l4_eq (l : List ByteArray) (t5 : List ByteArray) (t6 : Int) (t7 : Int) : spec_l1Good.l4 l t5 t6 t7 =
  (bif (decide (t7 < t6)) then (bif ((decide (0 ≤ t7)) && (decide (t7 < (t5.length : Int)))) then ((spec_l1Line.f (t5.getD (t7).toNat em)).bind fun y1 =>
    bif (!y1) then (some false) else
    (bif (decide (t7 < (w64 ((l.length : Int) - 1)))) then ((spec_l1Ends.f (t5.getD (t7).toNat em)).bind fun y2 =>
      bif (!y2) then (some false) else
      (spec_l1Good.l4 l t5 t6 (w64 (t7 + 1)))) else
     (spec_l1Good.l4 l t5 t6 (w64 (t7 + 1))))) else none) else (some (decide ((l.length : Int) ≤ 40)))) :=
  (fixP_eq spec_l1Good.E spec_l1Good.T spec_l1Good.C spec_l1Good.K 4 spec_l1Good.D4 (l, t5, t6, t7)).trans (by kernel_rfl)
theorem spec_l1Good.f_eq (l : List ByteArray) : spec_l1Good.f l =
  (spec_l1Good.l4 l l (l.length : Int) 0) := by kernel_rfl
noncomputable def spec_l1Good.S : Abs.Sum := ⟨spec_l1Good.P, spec_l1Good.R, fun _ => Fn spec_l1Good.E spec_l1Good.T spec_l1Good.C spec_l1Good.P spec_l1Good.R spec_l1Good.X⟩
theorem spec_l1Good.meets : Meets Try.prog 29 spec_l1Good.S := meets_tab (S := spec_l1Good.U) tabOk_all (AllMeets.cons spec_l1Line.meets (AllMeets.cons spec_l1Ends.meets AllMeets.nil)) (AllStill.cons (fun _ _ _ => rfl) (AllStill.cons (fun _ _ _ => rfl) AllStill.nil)) follows (by kernel_rfl : Try.prog.funcs[29]? = some Try.f29) (by kernel_rfl) (by kernel_rfl) (by kernel_rfl)
noncomputable def spec_l1OwnT.C : Code := Try.f32.body.getD .skip
def spec_l1OwnT.P : Par := (.cons (.val (.list .str)) .nil)
noncomputable def spec_l1OwnT.U : SumTab := []
noncomputable def spec_l1OwnT.E : Env := mkEnv TY AR spec_l1OwnT.U
noncomputable def spec_l1OwnT.T : Tab := fun k => look k []
def spec_l1OwnT.R : List (Nat × Ty) := [(9, .list .str)]
def spec_l1OwnT.X : List ResultVar := [.tmp 2]
noncomputable def spec_l1OwnT.f (l : List ByteArray) : Option ((List ByteArray)) := Fn spec_l1OwnT.E spec_l1OwnT.T spec_l1OwnT.C spec_l1OwnT.P spec_l1OwnT.R spec_l1OwnT.X l
theorem spec_l1OwnT.f_eq (l : List ByteArray) : spec_l1OwnT.f l =
  (bif (decide ((([] : List ByteArray).length + l.length) ≤ room 16)) then (some (([] : List ByteArray) ++ l)) else none) := by kernel_rfl
noncomputable def spec_l1OwnT.S : Abs.Sum := ⟨spec_l1OwnT.P, spec_l1OwnT.R, fun _ => Fn spec_l1OwnT.E spec_l1OwnT.T spec_l1OwnT.C spec_l1OwnT.P spec_l1OwnT.R spec_l1OwnT.X⟩
theorem spec_l1OwnT.meets : Meets Try.prog 32 spec_l1OwnT.S := meets_tab (S := spec_l1OwnT.U) tabOk_all AllMeets.nil AllStill.nil follows (by kernel_rfl : Try.prog.funcs[32]? = some Try.f32) (by kernel_rfl) (by kernel_rfl) (by kernel_rfl)
noncomputable def impl_in.C : Code := Try.f68.body.getD .skip
def impl_in.P : Par := (.cons (.val (.int .i64)) (.cons (.val (.int .i64)) (.cons (.val (.int .i64)) .nil)))
noncomputable def impl_in.U : SumTab := []
noncomputable def impl_in.E : Env := mkEnv TY AR impl_in.U
noncomputable def impl_in.T : Tab := fun k => look k []
def impl_in.R : List (Nat × Ty) := [(0, .bool)]
def impl_in.X : List ResultVar := [.tmp 6]
noncomputable def impl_in.f (n : Int) (low : Int) (high : Int) : Option (Bool) := Fn impl_in.E impl_in.T impl_in.C impl_in.P impl_in.R impl_in.X (n, low, high)
theorem impl_in.f_eq (n : Int) (low : Int) (high : Int) : impl_in.f n low high =
  (bif (decide (n ≥ low)) then (some (decide (n ≤ high))) else (some false)) := by kernel_rfl
noncomputable def impl_in.S : Abs.Sum := ⟨impl_in.P, impl_in.R, fun _ => Fn impl_in.E impl_in.T impl_in.C impl_in.P impl_in.R impl_in.X⟩
theorem impl_in.meets : Meets Try.prog 68 impl_in.S := meets_tab (S := impl_in.U) tabOk_all AllMeets.nil AllStill.nil follows (by kernel_rfl : Try.prog.funcs[68]? = some Try.f68) (by kernel_rfl) (by kernel_rfl) (by kernel_rfl)
noncomputable def impl_isLine.C : Code := Try.f90.body.getD .skip
def impl_isLine.P : Par := (.cons (.val .str) .nil)
noncomputable def impl_isLine.U : SumTab := [(68, [], impl_in.S), (106, [], strings_Contains.S)]
noncomputable def impl_isLine.E : Env := mkEnv TY AR impl_isLine.U
noncomputable def impl_isLine.T : Tab := fun k => look k []
def impl_isLine.R : List (Nat × Ty) := [(0, .bool)]
def impl_isLine.X : List ResultVar := [.tmp 2]
noncomputable def impl_isLine.f (line : ByteArray) : Option (Bool) := Fn impl_isLine.E impl_isLine.T impl_isLine.C impl_isLine.P impl_isLine.R impl_isLine.X line
theorem impl_isLine.f_eq (line : ByteArray) : impl_isLine.f line =
  ((impl_in.f (line.size : Int) 1 30).bind fun y1 =>
  bif y1 then (bif ((decide (0 ≤ (w64 ((line.size : Int) - 1)))) && (decide ((w64 ((line.size : Int) - 1)) ≤ (line.size : Int)))) then ((strings_Contains.f (line.extract 0 ((w64 ((line.size : Int) - 1))).toNat) (⟨#[10]⟩ : ByteArray)).bind fun y2 =>
    some (!y2)) else none) else (some false)) := by kernel_rfl
noncomputable def impl_isLine.S : Abs.Sum := ⟨impl_isLine.P, impl_isLine.R, fun _ => Fn impl_isLine.E impl_isLine.T impl_isLine.C impl_isLine.P impl_isLine.R impl_isLine.X⟩
theorem impl_isLine.meets : Meets Try.prog 90 impl_isLine.S := meets_tab (S := impl_isLine.U) tabOk_all (AllMeets.cons impl_in.meets (AllMeets.cons strings_Contains.meets AllMeets.nil)) (AllStill.cons (fun _ _ _ => rfl) (AllStill.cons (fun _ _ _ => rfl) AllStill.nil)) follows (by kernel_rfl : Try.prog.funcs[90]? = some Try.f90) (by kernel_rfl) (by kernel_rfl) (by kernel_rfl)
noncomputable def impl_areLines_1.C : Code := Try.f89.body.getD .skip
def impl_areLines_1.P : Par := (.cons (.val .str) .nil)
noncomputable def impl_areLines_1.U : SumTab := [(90, [], impl_isLine.S)]
noncomputable def impl_areLines_1.E : Env := mkEnv TY AR impl_areLines_1.U
noncomputable def impl_areLines_1.T : Tab := fun k => look k []
def impl_areLines_1.R : List (Nat × Ty) := [(0, .bool)]
def impl_areLines_1.X : List ResultVar := [.tmp 2]
noncomputable def impl_areLines_1.f (line : ByteArray) : Option (Bool) := Fn impl_areLines_1.E impl_areLines_1.T impl_areLines_1.C impl_areLines_1.P impl_areLines_1.R impl_areLines_1.X line
theorem impl_areLines_1.f_eq (line : ByteArray) : impl_areLines_1.f line =
  ((impl_isLine.f line).bind fun y1 =>
  some (!y1)) := by kernel_rfl
noncomputable def impl_areLines_1.S : Abs.Sum := ⟨impl_areLines_1.P, impl_areLines_1.R, fun _ => Fn impl_areLines_1.E impl_areLines_1.T impl_areLines_1.C impl_areLines_1.P impl_areLines_1.R impl_areLines_1.X⟩
theorem impl_areLines_1.meets : Meets Try.prog 89 impl_areLines_1.S := meets_tab (S := impl_areLines_1.U) tabOk_all (AllMeets.cons impl_isLine.meets AllMeets.nil) (AllStill.cons (fun _ _ _ => rfl) AllStill.nil) follows (by kernel_rfl : Try.prog.funcs[89]? = some Try.f89) (by kernel_rfl) (by kernel_rfl) (by kernel_rfl)
noncomputable def slices_IndexFunc_Lstring_string__impl_areLines_1.C : Code := Try.f105.body.getD .skip
def slices_IndexFunc_Lstring_string__impl_areLines_1.P : Par := (.cons (.val (.list .str)) (.cons (.fn 89 .nil) .nil))
noncomputable def slices_IndexFunc_Lstring_string__impl_areLines_1.U : SumTab := [(89, [], impl_areLines_1.S)]
noncomputable def slices_IndexFunc_Lstring_string__impl_areLines_1.E : Env := mkEnv TY AR slices_IndexFunc_Lstring_string__impl_areLines_1.U
def slices_IndexFunc_Lstring_string__impl_areLines_1.D4 : CutD := ⟨[0, 1, 7, 8], (.cons (.val (.list .str)) (.cons (.fn 89 .nil) (.cons (.val (.int .i64)) (.cons (.val (.int .i64)) .nil))))⟩
noncomputable def slices_IndexFunc_Lstring_string__impl_areLines_1.T : Tab := fun k => look k [(4, slices_IndexFunc_Lstring_string__impl_areLines_1.D4)]
def slices_IndexFunc_Lstring_string__impl_areLines_1.R : List (Nat × Ty) := [(0, .int .i64)]
def slices_IndexFunc_Lstring_string__impl_areLines_1.X : List ResultVar := [.tmp 4]
noncomputable def slices_IndexFunc_Lstring_string__impl_areLines_1.K := fin slices_IndexFunc_Lstring_string__impl_areLines_1.E ⟨slices_IndexFunc_Lstring_string__impl_areLines_1.P, slices_IndexFunc_Lstring_string__impl_areLines_1.R, fun _ _ => none⟩ slices_IndexFunc_Lstring_string__impl_areLines_1.X slices_IndexFunc_Lstring_string__impl_areLines_1.P.len 0
noncomputable def slices_IndexFunc_Lstring_string__impl_areLines_1.l4 (s : List ByteArray) (t7 : Int) (t8 : Int) : Option (Int) := fixP slices_IndexFunc_Lstring_string__impl_areLines_1.E slices_IndexFunc_Lstring_string__impl_areLines_1.T slices_IndexFunc_Lstring_string__impl_areLines_1.C slices_IndexFunc_Lstring_string__impl_areLines_1.K 4 slices_IndexFunc_Lstring_string__impl_areLines_1.D4 (s, t7, t8)
noncomputable def slices_IndexFunc_Lstring_string__impl_areLines_1.f (s : List ByteArray) : Option (Int) := Fn slices_IndexFunc_Lstring_string__impl_areLines_1.E slices_IndexFunc_Lstring_string__impl_areLines_1.T slices_IndexFunc_Lstring_string__impl_areLines_1.C slices_IndexFunc_Lstring_string__impl_areLines_1.P slices_IndexFunc_Lstring_string__impl_areLines_1.R slices_IndexFunc_Lstring_string__impl_areLines_1.X s
theorem slices_IndexFunc_Lstring_string__impl_areLines_1.l4_eq (s : List ByteArray) (t7 : Int) (t8 : Int) : slices_IndexFunc_Lstring_string__impl_areLines_1.l4 s t7 t8 =
  (bif (decide (t8 < t7)) then (bif ((decide (0 ≤ t8)) && (decide (t8 < (s.length : Int)))) then ((impl_areLines_1.f (s.getD (t8).toNat em)).bind fun y1 =>
    bif y1 then (some t8) else
    (slices_IndexFunc_Lstring_string__impl_areLines_1.l4 s t7 (w64 (t8 + 1)))) else none) else (some (-1))) :=
  (fixP_eq slices_IndexFunc_Lstring_string__impl_areLines_1.E slices_IndexFunc_Lstring_string__impl_areLines_1.T slices_IndexFunc_Lstring_string__impl_areLines_1.C slices_IndexFunc_Lstring_string__impl_areLines_1.K 4 slices_IndexFunc_Lstring_string__impl_areLines_1.D4 (s, t7, t8)).trans (by kernel_rfl)
theorem slices_IndexFunc_Lstring_string__impl_areLines_1.f_eq (s : List ByteArray) : slices_IndexFunc_Lstring_string__impl_areLines_1.f s =
  (slices_IndexFunc_Lstring_string__impl_areLines_1.l4 s (s.length : Int) 0) := by kernel_rfl
noncomputable def slices_IndexFunc_Lstring_string__impl_areLines_1.S : Abs.Sum := ⟨slices_IndexFunc_Lstring_string__impl_areLines_1.P, slices_IndexFunc_Lstring_string__impl_areLines_1.R, fun _ => Fn slices_IndexFunc_Lstring_string__impl_areLines_1.E slices_IndexFunc_Lstring_string__impl_areLines_1.T slices_IndexFunc_Lstring_string__impl_areLines_1.C slices_IndexFunc_Lstring_string__impl_areLines_1.P slices_IndexFunc_Lstring_string__impl_areLines_1.R slices_IndexFunc_Lstring_string__impl_areLines_1.X⟩
theorem slices_IndexFunc_Lstring_string__impl_areLines_1.meets : Meets Try.prog 105 slices_IndexFunc_Lstring_string__impl_areLines_1.S := meets_tab (S := slices_IndexFunc_Lstring_string__impl_areLines_1.U) tabOk_all (AllMeets.cons impl_areLines_1.meets AllMeets.nil) (AllStill.cons (fun _ _ _ => rfl) AllStill.nil) follows (by kernel_rfl : Try.prog.funcs[105]? = some Try.f105) (by kernel_rfl) (by kernel_rfl) (by kernel_rfl)
noncomputable def slices_ContainsFunc_Lstring_string__impl_areLines_1.C : Code := Try.f88.body.getD .skip
def slices_ContainsFunc_Lstring_string__impl_areLines_1.P : Par := (.cons (.val (.list .str)) (.cons (.fn 89 .nil) .nil))
noncomputable def slices_ContainsFunc_Lstring_string__impl_areLines_1.U : SumTab := [(105, [89], slices_IndexFunc_Lstring_string__impl_areLines_1.S)]
noncomputable def slices_ContainsFunc_Lstring_string__impl_areLines_1.E : Env := mkEnv TY AR slices_ContainsFunc_Lstring_string__impl_areLines_1.U
noncomputable def slices_ContainsFunc_Lstring_string__impl_areLines_1.T : Tab := fun k => look k []
def slices_ContainsFunc_Lstring_string__impl_areLines_1.R : List (Nat × Ty) := [(0, .bool)]
def slices_ContainsFunc_Lstring_string__impl_areLines_1.X : List ResultVar := [.tmp 4]
noncomputable def slices_ContainsFunc_Lstring_string__impl_areLines_1.f (s : List ByteArray) : Option (Bool) := Fn slices_ContainsFunc_Lstring_string__impl_areLines_1.E slices_ContainsFunc_Lstring_string__impl_areLines_1.T slices_ContainsFunc_Lstring_string__impl_areLines_1.C slices_ContainsFunc_Lstring_string__impl_areLines_1.P slices_ContainsFunc_Lstring_string__impl_areLines_1.R slices_ContainsFunc_Lstring_string__impl_areLines_1.X s
theorem slices_ContainsFunc_Lstring_string__impl_areLines_1.f_eq (s : List ByteArray) : slices_ContainsFunc_Lstring_string__impl_areLines_1.f s =
  ((slices_IndexFunc_Lstring_string__impl_areLines_1.f s).bind fun y1 =>
  some (decide (y1 ≥ 0))) := by kernel_rfl
noncomputable def slices_ContainsFunc_Lstring_string__impl_areLines_1.S : Abs.Sum := ⟨slices_ContainsFunc_Lstring_string__impl_areLines_1.P, slices_ContainsFunc_Lstring_string__impl_areLines_1.R, fun _ => Fn slices_ContainsFunc_Lstring_string__impl_areLines_1.E slices_ContainsFunc_Lstring_string__impl_areLines_1.T slices_ContainsFunc_Lstring_string__impl_areLines_1.C slices_ContainsFunc_Lstring_string__impl_areLines_1.P slices_ContainsFunc_Lstring_string__impl_areLines_1.R slices_ContainsFunc_Lstring_string__impl_areLines_1.X⟩
theorem slices_ContainsFunc_Lstring_string__impl_areLines_1.meets : Meets Try.prog 88 slices_ContainsFunc_Lstring_string__impl_areLines_1.S := meets_tab (S := slices_ContainsFunc_Lstring_string__impl_areLines_1.U) tabOk_all (AllMeets.cons slices_IndexFunc_Lstring_string__impl_areLines_1.meets AllMeets.nil) (AllStill.cons (fun _ _ _ => rfl) AllStill.nil) follows (by kernel_rfl : Try.prog.funcs[88]? = some Try.f88) (by kernel_rfl) (by kernel_rfl) (by kernel_rfl)
noncomputable def impl_areLines.C : Code := Try.f65.body.getD .skip
def impl_areLines.P : Par := (.cons (.val (.list .str)) .nil)
noncomputable def impl_areLines.U : SumTab := [(88, [89], slices_ContainsFunc_Lstring_string__impl_areLines_1.S)]
noncomputable def impl_areLines.E : Env := mkEnv TY AR impl_areLines.U
noncomputable def impl_areLines.T : Tab := fun k => look k []
def impl_areLines.R : List (Nat × Ty) := [(0, .bool)]
def impl_areLines.X : List ResultVar := [.tmp 2]
noncomputable def impl_areLines.f (l : List ByteArray) : Option (Bool) := Fn impl_areLines.E impl_areLines.T impl_areLines.C impl_areLines.P impl_areLines.R impl_areLines.X l
theorem impl_areLines.f_eq (l : List ByteArray) : impl_areLines.f l =
  (bif (decide ((l.length : Int) ≤ 40)) then ((slices_ContainsFunc_Lstring_string__impl_areLines_1.f l).bind fun y1 =>
   some (!y1)) else (some false)) := by kernel_rfl
noncomputable def impl_areLines.S : Abs.Sum := ⟨impl_areLines.P, impl_areLines.R, fun _ => Fn impl_areLines.E impl_areLines.T impl_areLines.C impl_areLines.P impl_areLines.R impl_areLines.X⟩
theorem impl_areLines.meets : Meets Try.prog 65 impl_areLines.S := meets_tab (S := impl_areLines.U) tabOk_all (AllMeets.cons slices_ContainsFunc_Lstring_string__impl_areLines_1.meets AllMeets.nil) (AllStill.cons (fun _ _ _ => rfl) AllStill.nil) follows (by kernel_rfl : Try.prog.funcs[65]? = some Try.f65) (by kernel_rfl) (by kernel_rfl) (by kernel_rfl)
noncomputable def internal_stringslite_HasSuffix.C : Code := Try.f107.body.getD .skip
def internal_stringslite_HasSuffix.P : Par := (.cons (.val .str) (.cons (.val .str) .nil))
noncomputable def internal_stringslite_HasSuffix.U : SumTab := []
noncomputable def internal_stringslite_HasSuffix.E : Env := mkEnv TY AR internal_stringslite_HasSuffix.U
noncomputable def internal_stringslite_HasSuffix.T : Tab := fun k => look k []
def internal_stringslite_HasSuffix.R : List (Nat × Ty) := [(0, .bool)]
def internal_stringslite_HasSuffix.X : List ResultVar := [.tmp 4]
noncomputable def internal_stringslite_HasSuffix.f (s : ByteArray) (suffix : ByteArray) : Option (Bool) := Fn internal_stringslite_HasSuffix.E internal_stringslite_HasSuffix.T internal_stringslite_HasSuffix.C internal_stringslite_HasSuffix.P internal_stringslite_HasSuffix.R internal_stringslite_HasSuffix.X (s, suffix)
theorem internal_stringslite_HasSuffix.f_eq (s : ByteArray) (suffix : ByteArray) : internal_stringslite_HasSuffix.f s suffix =
  (bif (decide ((s.size : Int) ≥ (suffix.size : Int))) then (bif ((decide (0 ≤ (w64 ((s.size : Int) - (suffix.size : Int))))) && (decide ((w64 ((s.size : Int) - (suffix.size : Int))) ≤ (s.size : Int)))) then (some ((s.extract ((w64 ((s.size : Int) - (suffix.size : Int)))).toNat s.size).toList == suffix.toList)) else none) else (some false)) := by kernel_rfl
noncomputable def internal_stringslite_HasSuffix.S : Abs.Sum := ⟨internal_stringslite_HasSuffix.P, internal_stringslite_HasSuffix.R, fun _ => Fn internal_stringslite_HasSuffix.E internal_stringslite_HasSuffix.T internal_stringslite_HasSuffix.C internal_stringslite_HasSuffix.P internal_stringslite_HasSuffix.R internal_stringslite_HasSuffix.X⟩
theorem internal_stringslite_HasSuffix.meets : Meets Try.prog 107 internal_stringslite_HasSuffix.S := meets_tab (S := internal_stringslite_HasSuffix.U) tabOk_all AllMeets.nil AllStill.nil follows (by kernel_rfl : Try.prog.funcs[107]? = some Try.f107) (by kernel_rfl) (by kernel_rfl) (by kernel_rfl)
noncomputable def strings_HasSuffix.C : Code := Try.f91.body.getD .skip
def strings_HasSuffix.P : Par := (.cons (.val .str) (.cons (.val .str) .nil))
noncomputable def strings_HasSuffix.U : SumTab := [(107, [], internal_stringslite_HasSuffix.S)]
noncomputable def strings_HasSuffix.E : Env := mkEnv TY AR strings_HasSuffix.U
noncomputable def strings_HasSuffix.T : Tab := fun k => look k []
def strings_HasSuffix.R : List (Nat × Ty) := [(0, .bool)]
def strings_HasSuffix.X : List ResultVar := [.tmp 4]
noncomputable def strings_HasSuffix.f (s : ByteArray) (suffix : ByteArray) : Option (Bool) := Fn strings_HasSuffix.E strings_HasSuffix.T strings_HasSuffix.C strings_HasSuffix.P strings_HasSuffix.R strings_HasSuffix.X (s, suffix)
theorem strings_HasSuffix.f_eq (s : ByteArray) (suffix : ByteArray) : strings_HasSuffix.f s suffix =
  ((internal_stringslite_HasSuffix.f s suffix).bind fun y1 =>
  some y1) := by kernel_rfl
noncomputable def strings_HasSuffix.S : Abs.Sum := ⟨strings_HasSuffix.P, strings_HasSuffix.R, fun _ => Fn strings_HasSuffix.E strings_HasSuffix.T strings_HasSuffix.C strings_HasSuffix.P strings_HasSuffix.R strings_HasSuffix.X⟩
theorem strings_HasSuffix.meets : Meets Try.prog 91 strings_HasSuffix.S := meets_tab (S := strings_HasSuffix.U) tabOk_all (AllMeets.cons internal_stringslite_HasSuffix.meets AllMeets.nil) (AllStill.cons (fun _ _ _ => rfl) AllStill.nil) follows (by kernel_rfl : Try.prog.funcs[91]? = some Try.f91) (by kernel_rfl) (by kernel_rfl) (by kernel_rfl)
noncomputable def impl_isEnded.C : Code := Try.f66.body.getD .skip
def impl_isEnded.P : Par := (.cons (.val .str) .nil)
noncomputable def impl_isEnded.U : SumTab := [(91, [], strings_HasSuffix.S)]
noncomputable def impl_isEnded.E : Env := mkEnv TY AR impl_isEnded.U
noncomputable def impl_isEnded.T : Tab := fun k => look k []
def impl_isEnded.R : List (Nat × Ty) := [(0, .bool)]
def impl_isEnded.X : List ResultVar := [.tmp 2]
noncomputable def impl_isEnded.f (line : ByteArray) : Option (Bool) := Fn impl_isEnded.E impl_isEnded.T impl_isEnded.C impl_isEnded.P impl_isEnded.R impl_isEnded.X line
theorem impl_isEnded.f_eq (line : ByteArray) : impl_isEnded.f line =
  ((strings_HasSuffix.f line (⟨#[10]⟩ : ByteArray)).bind fun y1 =>
  some y1) := by kernel_rfl
noncomputable def impl_isEnded.S : Abs.Sum := ⟨impl_isEnded.P, impl_isEnded.R, fun _ => Fn impl_isEnded.E impl_isEnded.T impl_isEnded.C impl_isEnded.P impl_isEnded.R impl_isEnded.X⟩
theorem impl_isEnded.meets : Meets Try.prog 66 impl_isEnded.S := meets_tab (S := impl_isEnded.U) tabOk_all (AllMeets.cons strings_HasSuffix.meets AllMeets.nil) (AllStill.cons (fun _ _ _ => rfl) AllStill.nil) follows (by kernel_rfl : Try.prog.funcs[66]? = some Try.f66) (by kernel_rfl) (by kernel_rfl) (by kernel_rfl)
noncomputable def impl_goodLines.C : Code := Try.f37.body.getD .skip
def impl_goodLines.P : Par := (.cons (.val (.list .str)) .nil)
noncomputable def impl_goodLines.U : SumTab := [(65, [], impl_areLines.S), (66, [], impl_isEnded.S)]
noncomputable def impl_goodLines.E : Env := mkEnv TY AR impl_goodLines.U
def impl_goodLines.D8 : CutD := ⟨[0, 8, 9, 10], (.cons (.val (.list .str)) (.cons (.val (.list .str)) (.cons (.val (.int .i64)) (.cons (.val (.int .i64)) .nil))))⟩
noncomputable def impl_goodLines.T : Tab := fun k => look k [(8, impl_goodLines.D8)]
def impl_goodLines.R : List (Nat × Ty) := [(0, .bool)]
def impl_goodLines.X : List ResultVar := [.tmp 2]
noncomputable def impl_goodLines.K := fin impl_goodLines.E ⟨impl_goodLines.P, impl_goodLines.R, fun _ _ => none⟩ impl_goodLines.X impl_goodLines.P.len 0
noncomputable def impl_goodLines.l8 (l : List ByteArray) (t8 : List ByteArray) (t9 : Int) (t10 : Int) : Option (Bool) := fixP impl_goodLines.E impl_goodLines.T impl_goodLines.C impl_goodLines.K 8 impl_goodLines.D8 (l, t8, t9, t10)
noncomputable def impl_goodLines.f (l : List ByteArray) : Option (Bool) := Fn impl_goodLines.E impl_goodLines.T impl_goodLines.C impl_goodLines.P impl_goodLines.R impl_goodLines.X l
theorem impl_goodLines.l8_eq (l : List ByteArray) (t8 : List ByteArray) (t9 : Int) (t10 : Int) : impl_goodLines.l8 l t8 t9 t10 =
  (bif (decide (t10 < t9)) then (bif ((decide (0 ≤ t10)) && (decide (t10 < (t8.length : Int)))) then (bif (decide (t10 < (w64 ((l.length : Int) - 1)))) then ((impl_isEnded.f (t8.getD (t10).toNat em)).bind fun y1 =>
     bif (!y1) then (some false) else
     (impl_goodLines.l8 l t8 t9 (w64 (t10 + 1)))) else
    (impl_goodLines.l8 l t8 t9 (w64 (t10 + 1)))) else none) else (some true)) :=
  (fixP_eq impl_goodLines.E impl_goodLines.T impl_goodLines.C impl_goodLines.K 8 impl_goodLines.D8 (l, t8, t9, t10)).trans (by kernel_rfl)
theorem impl_goodLines.f_eq (l : List ByteArray) : impl_goodLines.f l =
  ((impl_areLines.f l).bind fun y1 =>
  bif (!y1) then (some false) else
  (impl_goodLines.l8 l l (l.length : Int) 0)) := by kernel_rfl
noncomputable def impl_goodLines.S : Abs.Sum := ⟨impl_goodLines.P, impl_goodLines.R, fun _ => Fn impl_goodLines.E impl_goodLines.T impl_goodLines.C impl_goodLines.P impl_goodLines.R impl_goodLines.X⟩
theorem impl_goodLines.meets : Meets Try.prog 37 impl_goodLines.S := meets_tab (S := impl_goodLines.U) tabOk_all (AllMeets.cons impl_areLines.meets (AllMeets.cons impl_isEnded.meets AllMeets.nil)) (AllStill.cons (fun _ _ _ => rfl) (AllStill.cons (fun _ _ _ => rfl) AllStill.nil)) follows (by kernel_rfl : Try.prog.funcs[37]? = some Try.f37) (by kernel_rfl) (by kernel_rfl) (by kernel_rfl)
noncomputable def laws_eqStringS.C : Code := Try.f11.body.getD .skip
def laws_eqStringS.P : Par := (.cons (.val (.list .str)) (.cons (.val (.list .str)) .nil))
noncomputable def laws_eqStringS.U : SumTab := []
noncomputable def laws_eqStringS.E : Env := mkEnv TY AR laws_eqStringS.U
def laws_eqStringS.D8 : CutD := ⟨[0, 1, 5], (.cons (.val (.list .str)) (.cons (.val (.list .str)) (.cons (.val (.int .i64)) .nil)))⟩
noncomputable def laws_eqStringS.T : Tab := fun k => look k [(8, laws_eqStringS.D8)]
def laws_eqStringS.R : List (Nat × Ty) := [(0, .bool)]
def laws_eqStringS.X : List ResultVar := [.tmp 4]
noncomputable def laws_eqStringS.K := fin laws_eqStringS.E ⟨laws_eqStringS.P, laws_eqStringS.R, fun _ _ => none⟩ laws_eqStringS.X laws_eqStringS.P.len 0
noncomputable def laws_eqStringS.l8 (a : List ByteArray) (b : List ByteArray) (i : Int) : Option (Bool) := fixP laws_eqStringS.E laws_eqStringS.T laws_eqStringS.C laws_eqStringS.K 8 laws_eqStringS.D8 (a, b, i)
noncomputable def laws_eqStringS.f (a : List ByteArray) (b : List ByteArray) : Option (Bool) := Fn laws_eqStringS.E laws_eqStringS.T laws_eqStringS.C laws_eqStringS.P laws_eqStringS.R laws_eqStringS.X (a, b)
theorem laws_eqStringS.l8_eq (a : List ByteArray) (b : List ByteArray) (i : Int) : laws_eqStringS.l8 a b i =
  (bif (decide (i < (a.length : Int))) then (bif ((decide (0 ≤ i)) && (decide (i < (a.length : Int)))) then (bif ((decide (0 ≤ i)) && (decide (i < (b.length : Int)))) then (bif (!((a.getD (i).toNat em).toList == (b.getD (i).toNat em).toList)) then (some false) else
     (laws_eqStringS.l8 a b (w64 (i + 1)))) else none) else none) else (some true)) :=
  (fixP_eq laws_eqStringS.E laws_eqStringS.T laws_eqStringS.C laws_eqStringS.K 8 laws_eqStringS.D8 (a, b, i)).trans (by kernel_rfl)
theorem laws_eqStringS.f_eq (a : List ByteArray) (b : List ByteArray) : laws_eqStringS.f a b =
  (bif (!(decide ((a.length : Int) = (b.length : Int)))) then (some false) else
  (laws_eqStringS.l8 a b 0)) := by kernel_rfl
noncomputable def laws_eqStringS.S : Abs.Sum := ⟨laws_eqStringS.P, laws_eqStringS.R, fun _ => Fn laws_eqStringS.E laws_eqStringS.T laws_eqStringS.C laws_eqStringS.P laws_eqStringS.R laws_eqStringS.X⟩
theorem laws_eqStringS.meets : Meets Try.prog 11 laws_eqStringS.S := meets_tab (S := laws_eqStringS.U) tabOk_all AllMeets.nil AllStill.nil follows (by kernel_rfl : Try.prog.funcs[11]? = some Try.f11) (by kernel_rfl) (by kernel_rfl) (by kernel_rfl)
noncomputable def laws_markText.C : Code := Try.f46.body.getD .skip
def laws_markText.P : Par := (.cons (.val (.int .i64)) .nil)
noncomputable def laws_markText.U : SumTab := []
noncomputable def laws_markText.E : Env := mkEnv TY AR laws_markText.U
def laws_markText.D8 : CutD := ⟨[0, 3], (.cons (.val (.int .i64)) (.cons (.val .str) .nil))⟩
noncomputable def laws_markText.T : Tab := fun k => look k [(8, laws_markText.D8)]
def laws_markText.R : List (Nat × Ty) := [(0, .str)]
def laws_markText.X : List ResultVar := [.tmp 2]
noncomputable def laws_markText.K := fin laws_markText.E ⟨laws_markText.P, laws_markText.R, fun _ _ => none⟩ laws_markText.X laws_markText.P.len 0
noncomputable def laws_markText.l8 (k : Int) (out : ByteArray) : Option (ByteArray) := fixP laws_markText.E laws_markText.T laws_markText.C laws_markText.K 8 laws_markText.D8 (k, out)
noncomputable def laws_markText.f (k : Int) : Option (ByteArray) := Fn laws_markText.E laws_markText.T laws_markText.C laws_markText.P laws_markText.R laws_markText.X k
theorem laws_markText.l8_eq (k : Int) (out : ByteArray) : laws_markText.l8 k out =
  (bif (decide (k > 0)) then (bif (decide (((strOf [(IntKind.wrap .u8 (w64 (48 + (k.tmod 10))))]).size + out.size) ≤ 9223372036854775807)) then (laws_markText.l8 (w64 (k.tdiv 10)) ((strOf [(IntKind.wrap .u8 (w64 (48 + (k.tmod 10))))]) ++ out)) else none) else
  (bif (decide (((⟨#[109]⟩ : ByteArray).size + out.size) ≤ 9223372036854775807)) then (some ((⟨#[109]⟩ : ByteArray) ++ out)) else none)) :=
  (fixP_eq laws_markText.E laws_markText.T laws_markText.C laws_markText.K 8 laws_markText.D8 (k, out)).trans (by kernel_rfl)
theorem laws_markText.f_eq (k : Int) : laws_markText.f k =
  (bif (decide (k ≤ 0)) then (some (⟨#[109, 48]⟩ : ByteArray)) else
  (laws_markText.l8 k em)) := by kernel_rfl
noncomputable def laws_markText.S : Abs.Sum := ⟨laws_markText.P, laws_markText.R, fun _ => Fn laws_markText.E laws_markText.T laws_markText.C laws_markText.P laws_markText.R laws_markText.X⟩
theorem laws_markText.meets : Meets Try.prog 46 laws_markText.S := meets_tab (S := laws_markText.U) tabOk_all AllMeets.nil AllStill.nil follows (by kernel_rfl : Try.prog.funcs[46]? = some Try.f46) (by kernel_rfl) (by kernel_rfl) (by kernel_rfl)
noncomputable def laws_markStringS.C : Code := Try.f14.body.getD .skip
def laws_markStringS.P : Par := (.cons (.io 9 .str) (.cons (.val (.int .i64)) .nil))
noncomputable def laws_markStringS.U : SumTab := [(46, [], laws_markText.S)]
noncomputable def laws_markStringS.E : Env := mkEnv TY AR laws_markStringS.U
def laws_markStringS.D4 : CutD := ⟨[0, 1, 5], (.cons (.own 9 .str) (.cons (.val (.int .i64)) (.cons (.val (.int .i64)) .nil)))⟩
noncomputable def laws_markStringS.T : Tab := fun k => look k [(4, laws_markStringS.D4)]
def laws_markStringS.R : List (Nat × Ty) := [(0, .int .i64)]
def laws_markStringS.X : List ResultVar := [.tmp 4]
noncomputable def laws_markStringS.K := fin laws_markStringS.E ⟨laws_markStringS.P, laws_markStringS.R, fun _ _ => none⟩ laws_markStringS.X laws_markStringS.P.len 0
noncomputable def laws_markStringS.l4 (a : List ByteArray) (k : Int) (i : Int) : Option (Int × (List ByteArray)) := fixP laws_markStringS.E laws_markStringS.T laws_markStringS.C laws_markStringS.K 4 laws_markStringS.D4 (a, k, i)
noncomputable def laws_markStringS.f (a : List ByteArray) (k : Int) : Option (Int × (List ByteArray)) := Fn laws_markStringS.E laws_markStringS.T laws_markStringS.C laws_markStringS.P laws_markStringS.R laws_markStringS.X (a, k)
theorem laws_markStringS.l4_eq (a : List ByteArray) (k : Int) (i : Int) : laws_markStringS.l4 a k i =
  (bif (decide (i < (a.length : Int))) then ((laws_markText.f k).bind fun y1 =>
   bif ((decide (0 ≤ i)) && (decide (i < (a.length : Int)))) then (laws_markStringS.l4 (a.set (i).toNat y1) (w64 (k + 1)) (w64 (i + 1))) else none) else (some (k, a))) :=
  (fixP_eq laws_markStringS.E laws_markStringS.T laws_markStringS.C laws_markStringS.K 4 laws_markStringS.D4 (a, k, i)).trans (by kernel_rfl)
theorem laws_markStringS.f_eq (a : List ByteArray) (k : Int) : laws_markStringS.f a k =
  (laws_markStringS.l4 a k 0) := by kernel_rfl
noncomputable def laws_markStringS.S : Abs.Sum := ⟨laws_markStringS.P, laws_markStringS.R, fun _ => Fn laws_markStringS.E laws_markStringS.T laws_markStringS.C laws_markStringS.P laws_markStringS.R laws_markStringS.X⟩
theorem laws_markStringS.meets : Meets Try.prog 14 laws_markStringS.S := meets_tab (S := laws_markStringS.U) tabOk_all (AllMeets.cons laws_markText.meets AllMeets.nil) (AllStill.cons (fun _ _ _ => rfl) AllStill.nil) follows (by kernel_rfl : Try.prog.funcs[14]? = some Try.f14) (by kernel_rfl) (by kernel_rfl) (by kernel_rfl)
noncomputable def laws_heldStringS.C : Code := Try.f17.body.getD .skip
def laws_heldStringS.P : Par := (.cons (.val (.list .str)) (.cons (.val (.int .i64)) .nil))
noncomputable def laws_heldStringS.U : SumTab := [(46, [], laws_markText.S)]
noncomputable def laws_heldStringS.E : Env := mkEnv TY AR laws_heldStringS.U
def laws_heldStringS.D4 : CutD := ⟨[0, 1, 5], (.cons (.val (.list .str)) (.cons (.val (.int .i64)) (.cons (.val (.int .i64)) .nil)))⟩
noncomputable def laws_heldStringS.T : Tab := fun k => look k [(4, laws_heldStringS.D4)]
def laws_heldStringS.R : List (Nat × Ty) := [(0, .int .i64)]
def laws_heldStringS.X : List ResultVar := [.tmp 4]
noncomputable def laws_heldStringS.K := fin laws_heldStringS.E ⟨laws_heldStringS.P, laws_heldStringS.R, fun _ _ => none⟩ laws_heldStringS.X laws_heldStringS.P.len 0
noncomputable def laws_heldStringS.l4 (a : List ByteArray) (k : Int) (i : Int) : Option (Int) := fixP laws_heldStringS.E laws_heldStringS.T laws_heldStringS.C laws_heldStringS.K 4 laws_heldStringS.D4 (a, k, i)
noncomputable def laws_heldStringS.f (a : List ByteArray) (k : Int) : Option (Int) := Fn laws_heldStringS.E laws_heldStringS.T laws_heldStringS.C laws_heldStringS.P laws_heldStringS.R laws_heldStringS.X (a, k)
theorem laws_heldStringS.l4_eq (a : List ByteArray) (k : Int) (i : Int) : laws_heldStringS.l4 a k i =
  (bif (decide (i < (a.length : Int))) then (bif ((decide (0 ≤ i)) && (decide (i < (a.length : Int)))) then ((laws_markText.f k).bind fun y1 =>
    bif (!((a.getD (i).toNat em).toList == y1.toList)) then (some (-1)) else
    (laws_heldStringS.l4 a (w64 (k + 1)) (w64 (i + 1)))) else none) else (some k)) :=
  (fixP_eq laws_heldStringS.E laws_heldStringS.T laws_heldStringS.C laws_heldStringS.K 4 laws_heldStringS.D4 (a, k, i)).trans (by kernel_rfl)
theorem laws_heldStringS.f_eq (a : List ByteArray) (k : Int) : laws_heldStringS.f a k =
  (laws_heldStringS.l4 a k 0) := by kernel_rfl
noncomputable def laws_heldStringS.S : Abs.Sum := ⟨laws_heldStringS.P, laws_heldStringS.R, fun _ => Fn laws_heldStringS.E laws_heldStringS.T laws_heldStringS.C laws_heldStringS.P laws_heldStringS.R laws_heldStringS.X⟩
theorem laws_heldStringS.meets : Meets Try.prog 17 laws_heldStringS.S := meets_tab (S := laws_heldStringS.U) tabOk_all (AllMeets.cons laws_markText.meets AllMeets.nil) (AllStill.cons (fun _ _ _ => rfl) AllStill.nil) follows (by kernel_rfl : Try.prog.funcs[17]? = some Try.f17) (by kernel_rfl) (by kernel_rfl) (by kernel_rfl)
noncomputable def laws_szOrder.C : Code := Try.f48.body.getD .skip
def laws_szOrder.P : Par := (.cons (.val (.pair (.int .i64) (.pair (.int .i64) (.pair (.int .i64) (.one (.list .str)))))) (.cons (.val (.int .i64)) .nil))
noncomputable def laws_szOrder.U : SumTab := [(5, [], laws_szStringS.S)]
noncomputable def laws_szOrder.E : Env := mkEnv TY AR laws_szOrder.U
noncomputable def laws_szOrder.T : Tab := fun k => look k []
def laws_szOrder.R : List (Nat × Ty) := [(0, .int .i64)]
def laws_szOrder.X : List ResultVar := [.tmp 4]
noncomputable def laws_szOrder.f (a : Int × Int × Int × List ByteArray) (left : Int) : Option (Int) := Fn laws_szOrder.E laws_szOrder.T laws_szOrder.C laws_szOrder.P laws_szOrder.R laws_szOrder.X (a, left)
theorem laws_szOrder.f_eq (a : Int × Int × Int × List ByteArray) (left : Int) : laws_szOrder.f a left =
  ((laws_szStringS.f a.2.2.2 left).bind fun y1 =>
  bif (decide (y1 < 0)) then (some (-1)) else (some y1)) := by kernel_rfl
noncomputable def laws_szOrder.S : Abs.Sum := ⟨laws_szOrder.P, laws_szOrder.R, fun _ => Fn laws_szOrder.E laws_szOrder.T laws_szOrder.C laws_szOrder.P laws_szOrder.R laws_szOrder.X⟩
theorem laws_szOrder.meets : Meets Try.prog 48 laws_szOrder.S := meets_tab (S := laws_szOrder.U) tabOk_all (AllMeets.cons laws_szStringS.meets AllMeets.nil) (AllStill.cons (fun _ _ _ => rfl) AllStill.nil) follows (by kernel_rfl : Try.prog.funcs[48]? = some Try.f48) (by kernel_rfl) (by kernel_rfl) (by kernel_rfl)
noncomputable def laws_szOrderS.C : Code := Try.f19.body.getD .skip
def laws_szOrderS.P : Par := (.cons (.val (.list (.pair (.int .i64) (.pair (.int .i64) (.pair (.int .i64) (.one (.list .str))))))) (.cons (.val (.int .i64)) .nil))
noncomputable def laws_szOrderS.U : SumTab := [(48, [], laws_szOrder.S)]
noncomputable def laws_szOrderS.E : Env := mkEnv TY AR laws_szOrderS.U
def laws_szOrderS.D10 : CutD := ⟨[0, 1, 5], (.cons (.val (.list (.pair (.int .i64) (.pair (.int .i64) (.pair (.int .i64) (.one (.list .str))))))) (.cons (.val (.int .i64)) (.cons (.val (.int .i64)) .nil)))⟩
noncomputable def laws_szOrderS.T : Tab := fun k => look k [(10, laws_szOrderS.D10)]
def laws_szOrderS.R : List (Nat × Ty) := [(0, .int .i64)]
def laws_szOrderS.X : List ResultVar := [.tmp 4]
noncomputable def laws_szOrderS.K := fin laws_szOrderS.E ⟨laws_szOrderS.P, laws_szOrderS.R, fun _ _ => none⟩ laws_szOrderS.X laws_szOrderS.P.len 0
noncomputable def laws_szOrderS.l10 (a : List (Int × Int × Int × List ByteArray)) (left : Int) (i : Int) : Option (Int) := fixP laws_szOrderS.E laws_szOrderS.T laws_szOrderS.C laws_szOrderS.K 10 laws_szOrderS.D10 (a, left, i)
noncomputable def laws_szOrderS.f (a : List (Int × Int × Int × List ByteArray)) (left : Int) : Option (Int) := Fn laws_szOrderS.E laws_szOrderS.T laws_szOrderS.C laws_szOrderS.P laws_szOrderS.R laws_szOrderS.X (a, left)
theorem laws_szOrderS.l10_eq (a : List (Int × Int × Int × List ByteArray)) (left : Int) (i : Int) : laws_szOrderS.l10 a left i =
  (bif (decide (i < (a.length : Int))) then (bif ((decide (0 ≤ i)) && (decide (i < (a.length : Int)))) then ((laws_szOrder.f (a.getD (i).toNat (0, 0, 0, ([] : List ByteArray))) left).bind fun y1 =>
    bif (decide (y1 < 0)) then (some (-1)) else
    (laws_szOrderS.l10 a y1 (w64 (i + 1)))) else none) else (some left)) :=
  (fixP_eq laws_szOrderS.E laws_szOrderS.T laws_szOrderS.C laws_szOrderS.K 10 laws_szOrderS.D10 (a, left, i)).trans (by kernel_rfl)
theorem laws_szOrderS.f_eq (a : List (Int × Int × Int × List ByteArray)) (left : Int) : laws_szOrderS.f a left =
  (bif (decide ((w64 (left - (a.length : Int))) < 0)) then (some (-1)) else
  (laws_szOrderS.l10 a (w64 (left - (a.length : Int))) 0)) := by kernel_rfl
noncomputable def laws_szOrderS.S : Abs.Sum := ⟨laws_szOrderS.P, laws_szOrderS.R, fun _ => Fn laws_szOrderS.E laws_szOrderS.T laws_szOrderS.C laws_szOrderS.P laws_szOrderS.R laws_szOrderS.X⟩
theorem laws_szOrderS.meets : Meets Try.prog 19 laws_szOrderS.S := meets_tab (S := laws_szOrderS.U) tabOk_all (AllMeets.cons laws_szOrder.meets AllMeets.nil) (AllStill.cons (fun _ _ _ => rfl) AllStill.nil) follows (by kernel_rfl : Try.prog.funcs[19]? = some Try.f19) (by kernel_rfl) (by kernel_rfl) (by kernel_rfl)
noncomputable def laws_toOrder.C : Code := Try.f53.body.getD .skip
def laws_toOrder.P : Par := (.cons (.val (.pair (.int .i64) (.pair (.int .i64) (.pair (.int .i64) (.one (.list .str)))))) .nil)
noncomputable def laws_toOrder.U : SumTab := [(8, [], laws_toStringS.S)]
noncomputable def laws_toOrder.E : Env := mkEnv TY AR laws_toOrder.U
noncomputable def laws_toOrder.T : Tab := fun k => look k []
def laws_toOrder.R : List (Nat × Ty) := [(9, .pair (.int .i64) (.pair (.int .i64) (.pair (.int .i64) (.one (.list .str)))))]
def laws_toOrder.X : List ResultVar := [.cell 2 77]
noncomputable def laws_toOrder.f (a : Int × Int × Int × List ByteArray) : Option ((Int × Int × Int × List ByteArray)) := Fn laws_toOrder.E laws_toOrder.T laws_toOrder.C laws_toOrder.P laws_toOrder.R laws_toOrder.X a
theorem laws_toOrder.f_eq (a : Int × Int × Int × List ByteArray) : laws_toOrder.f a =
  ((laws_toStringS.f a.2.2.2).bind fun y1 =>
  some (a.1, a.2.1, a.2.2.1, y1)) := by kernel_rfl
noncomputable def laws_toOrder.S : Abs.Sum := ⟨laws_toOrder.P, laws_toOrder.R, fun _ => Fn laws_toOrder.E laws_toOrder.T laws_toOrder.C laws_toOrder.P laws_toOrder.R laws_toOrder.X⟩
theorem laws_toOrder.meets : Meets Try.prog 53 laws_toOrder.S := meets_tab (S := laws_toOrder.U) tabOk_all (AllMeets.cons laws_toStringS.meets AllMeets.nil) (AllStill.cons (fun _ _ _ => rfl) AllStill.nil) follows (by kernel_rfl : Try.prog.funcs[53]? = some Try.f53) (by kernel_rfl) (by kernel_rfl) (by kernel_rfl)
noncomputable def laws_toOrderS.C : Code := Try.f21.body.getD .skip
def laws_toOrderS.P : Par := (.cons (.val (.list (.pair (.int .i64) (.pair (.int .i64) (.pair (.int .i64) (.one (.list .str))))))) .nil)
noncomputable def laws_toOrderS.U : SumTab := [(53, [], laws_toOrder.S)]
noncomputable def laws_toOrderS.E : Env := mkEnv TY AR laws_toOrderS.U
def laws_toOrderS.D6 : CutD := ⟨[0, 3, 4], (.cons (.val (.list (.pair (.int .i64) (.pair (.int .i64) (.pair (.int .i64) (.one (.list .str))))))) (.cons (.own 9 (.pair (.int .i64) (.pair (.int .i64) (.pair (.int .i64) (.one (.list .str)))))) (.cons (.val (.int .i64)) .nil)))⟩
noncomputable def laws_toOrderS.T : Tab := fun k => look k [(6, laws_toOrderS.D6)]
def laws_toOrderS.R : List (Nat × Ty) := [(9, .list (.pair (.int .i64) (.pair (.int .i64) (.pair (.int .i64) (.one (.list .str))))))]
def laws_toOrderS.X : List ResultVar := [.tmp 2]
noncomputable def laws_toOrderS.K := fin laws_toOrderS.E ⟨laws_toOrderS.P, laws_toOrderS.R, fun _ _ => none⟩ laws_toOrderS.X laws_toOrderS.P.len 0
noncomputable def laws_toOrderS.l6 (a : List (Int × Int × Int × List ByteArray)) (out : List (Int × Int × Int × List ByteArray)) (i : Int) : Option ((List (Int × Int × Int × List ByteArray))) := fixP laws_toOrderS.E laws_toOrderS.T laws_toOrderS.C laws_toOrderS.K 6 laws_toOrderS.D6 (a, out, i)
noncomputable def laws_toOrderS.f (a : List (Int × Int × Int × List ByteArray)) : Option ((List (Int × Int × Int × List ByteArray))) := Fn laws_toOrderS.E laws_toOrderS.T laws_toOrderS.C laws_toOrderS.P laws_toOrderS.R laws_toOrderS.X a
theorem laws_toOrderS.l6_eq (a : List (Int × Int × Int × List ByteArray)) (out : List (Int × Int × Int × List ByteArray)) (i : Int) : laws_toOrderS.l6 a out i =
  (bif (decide (i < (a.length : Int))) then (bif ((decide (0 ≤ i)) && (decide (i < (a.length : Int)))) then ((laws_toOrder.f (a.getD (i).toNat (0, 0, 0, ([] : List ByteArray)))).bind fun y1 =>
    bif ((decide (0 ≤ i)) && (decide (i < (out.length : Int)))) then (laws_toOrderS.l6 a (out.set (i).toNat (y1.1, y1.2.1, y1.2.2.1, y1.2.2.2)) (w64 (i + 1))) else none) else none) else (some out)) :=
  (fixP_eq laws_toOrderS.E laws_toOrderS.T laws_toOrderS.C laws_toOrderS.K 6 laws_toOrderS.D6 (a, out, i)).trans (by kernel_rfl)
theorem laws_toOrderS.f_eq (a : List (Int × Int × Int × List ByteArray)) : laws_toOrderS.f a =
  (bif ((decide (0 ≤ (a.length : Int))) && (decide (((a.length : Int)).toNat ≤ room 48))) then (laws_toOrderS.l6 a (List.replicate ((a.length : Int)).toNat (0, 0, 0, ([] : List ByteArray))) 0) else none) := by kernel_rfl
noncomputable def laws_toOrderS.S : Abs.Sum := ⟨laws_toOrderS.P, laws_toOrderS.R, fun _ => Fn laws_toOrderS.E laws_toOrderS.T laws_toOrderS.C laws_toOrderS.P laws_toOrderS.R laws_toOrderS.X⟩
theorem laws_toOrderS.meets : Meets Try.prog 21 laws_toOrderS.S := meets_tab (S := laws_toOrderS.U) tabOk_all (AllMeets.cons laws_toOrder.meets AllMeets.nil) (AllStill.cons (fun _ _ _ => rfl) AllStill.nil) follows (by kernel_rfl : Try.prog.funcs[21]? = some Try.f21) (by kernel_rfl) (by kernel_rfl) (by kernel_rfl)
noncomputable def spec_l1Whole.C : Code := Try.f49.body.getD .skip
def spec_l1Whole.P : Par := (.cons (.val (.list .str)) .nil)
noncomputable def spec_l1Whole.U : SumTab := [(61, [], spec_l1Ends.S)]
noncomputable def spec_l1Whole.E : Env := mkEnv TY AR spec_l1Whole.U
noncomputable def spec_l1Whole.T : Tab := fun k => look k []
def spec_l1Whole.R : List (Nat × Ty) := [(0, .bool)]
def spec_l1Whole.X : List ResultVar := [.tmp 2]
noncomputable def spec_l1Whole.f (l : List ByteArray) : Option (Bool) := Fn spec_l1Whole.E spec_l1Whole.T spec_l1Whole.C spec_l1Whole.P spec_l1Whole.R spec_l1Whole.X l
theorem spec_l1Whole.f_eq (l : List ByteArray) : spec_l1Whole.f l =
  (bif (decide ((l.length : Int) = 0)) then (some true) else
  (bif ((decide (0 ≤ (w64 ((l.length : Int) - 1)))) && (decide ((w64 ((l.length : Int) - 1)) < (l.length : Int)))) then ((spec_l1Ends.f (l.getD ((w64 ((l.length : Int) - 1))).toNat em)).bind fun y1 =>
    some y1) else none)) := by kernel_rfl
noncomputable def spec_l1Whole.S : Abs.Sum := ⟨spec_l1Whole.P, spec_l1Whole.R, fun _ => Fn spec_l1Whole.E spec_l1Whole.T spec_l1Whole.C spec_l1Whole.P spec_l1Whole.R spec_l1Whole.X⟩
theorem spec_l1Whole.meets : Meets Try.prog 49 spec_l1Whole.S := meets_tab (S := spec_l1Whole.U) tabOk_all (AllMeets.cons spec_l1Ends.meets AllMeets.nil) (AllStill.cons (fun _ _ _ => rfl) AllStill.nil) follows (by kernel_rfl : Try.prog.funcs[49]? = some Try.f49) (by kernel_rfl) (by kernel_rfl) (by kernel_rfl)
noncomputable def spec_l9Lines.C : Code := Try.f95.body.getD .skip
def spec_l9Lines.P : Par := (.cons (.val (.list .str)) .nil)
noncomputable def spec_l9Lines.U : SumTab := [(60, [], spec_l1Line.S), (61, [], spec_l1Ends.S), (31, [], spec_l1In.S)]
noncomputable def spec_l9Lines.E : Env := mkEnv TY AR spec_l9Lines.U
def spec_l9Lines.D4 : CutD := ⟨[0, 5, 6, 7], (.cons (.val (.list .str)) (.cons (.val (.list .str)) (.cons (.val (.int .i64)) (.cons (.val (.int .i64)) .nil))))⟩
noncomputable def spec_l9Lines.T : Tab := fun k => look k [(4, spec_l9Lines.D4)]
def spec_l9Lines.R : List (Nat × Ty) := [(0, .bool)]
def spec_l9Lines.X : List ResultVar := [.tmp 2]
noncomputable def spec_l9Lines.K := fin spec_l9Lines.E ⟨spec_l9Lines.P, spec_l9Lines.R, fun _ _ => none⟩ spec_l9Lines.X spec_l9Lines.P.len 0
noncomputable def spec_l9Lines.l4 (l : List ByteArray) (t5 : List ByteArray) (t6 : Int) (t7 : Int) : Option (Bool) := fixP spec_l9Lines.E spec_l9Lines.T spec_l9Lines.C spec_l9Lines.K 4 spec_l9Lines.D4 (l, t5, t6, t7)
noncomputable def spec_l9Lines.f (l : List ByteArray) : Option (Bool) := Fn spec_l9Lines.E spec_l9Lines.T spec_l9Lines.C spec_l9Lines.P spec_l9Lines.R spec_l9Lines.X l
theorem spec_l9Lines.l4_eq (l : List ByteArray) (t5 : List ByteArray) (t6 : Int) (t7 : Int) : spec_l9Lines.l4 l t5 t6 t7 =
  (bif (decide (t7 < t6)) then (bif ((decide (0 ≤ t7)) && (decide (t7 < (t5.length : Int)))) then ((spec_l1Line.f (t5.getD (t7).toNat em)).bind fun y1 =>
    bif (!y1) then (some false) else
    ((spec_l1Ends.f (t5.getD (t7).toNat em)).bind fun y2 =>
     bif (!y2) then (some false) else
     (bif ((t5.getD (t7).toNat em).toList == (⟨#[46, 10]⟩ : ByteArray).toList) then (some false) else
      (spec_l9Lines.l4 l t5 t6 (w64 (t7 + 1)))))) else none) else
  ((spec_l1In.f (l.length : Int) 1 40).bind fun y1 =>
   some y1)) :=
  (fixP_eq spec_l9Lines.E spec_l9Lines.T spec_l9Lines.C spec_l9Lines.K 4 spec_l9Lines.D4 (l, t5, t6, t7)).trans (by kernel_rfl)
theorem spec_l9Lines.f_eq (l : List ByteArray) : spec_l9Lines.f l =
  (spec_l9Lines.l4 l l (l.length : Int) 0) := by kernel_rfl
noncomputable def spec_l9Lines.S : Abs.Sum := ⟨spec_l9Lines.P, spec_l9Lines.R, fun _ => Fn spec_l9Lines.E spec_l9Lines.T spec_l9Lines.C spec_l9Lines.P spec_l9Lines.R spec_l9Lines.X⟩
theorem spec_l9Lines.meets : Meets Try.prog 95 spec_l9Lines.S := meets_tab (S := spec_l9Lines.U) tabOk_all (AllMeets.cons spec_l1Line.meets (AllMeets.cons spec_l1Ends.meets (AllMeets.cons spec_l1In.meets AllMeets.nil))) (AllStill.cons (fun _ _ _ => rfl) (AllStill.cons (fun _ _ _ => rfl) (AllStill.cons (fun _ _ _ => rfl) AllStill.nil))) follows (by kernel_rfl : Try.prog.funcs[95]? = some Try.f95) (by kernel_rfl) (by kernel_rfl) (by kernel_rfl)
noncomputable def spec_l9Order.C : Code := Try.f76.body.getD .skip
def spec_l9Order.P : Par := (.cons (.val (.pair (.int .i64) (.pair (.int .i64) (.pair (.int .i64) (.one (.list .str)))))) .nil)
noncomputable def spec_l9Order.U : SumTab := [(31, [], spec_l1In.S), (95, [], spec_l9Lines.S)]
noncomputable def spec_l9Order.E : Env := mkEnv TY AR spec_l9Order.U
def spec_l9Order.D7 : CutD := ⟨[1], (.cons (.box 0 (.pair (.int .i64) (.pair (.int .i64) (.pair (.int .i64) (.one (.list .str)))))) .nil)⟩
noncomputable def spec_l9Order.T : Tab := fun k => look k [(7, spec_l9Order.D7)]
def spec_l9Order.R : List (Nat × Ty) := [(0, .bool)]
def spec_l9Order.X : List ResultVar := [.tmp 2]
noncomputable def spec_l9Order.K := fin spec_l9Order.E ⟨spec_l9Order.P, spec_l9Order.R, fun _ _ => none⟩ spec_l9Order.X spec_l9Order.P.len 0
noncomputable def spec_l9Order.l7 (x : Int × Int × Int × List ByteArray) : Option (Bool) := fixP spec_l9Order.E spec_l9Order.T spec_l9Order.C spec_l9Order.K 7 spec_l9Order.D7 x
noncomputable def spec_l9Order.f (x : Int × Int × Int × List ByteArray) : Option (Bool) := Fn spec_l9Order.E spec_l9Order.T spec_l9Order.C spec_l9Order.P spec_l9Order.R spec_l9Order.X x
theorem spec_l9Order.l7_eq (x : Int × Int × Int × List ByteArray) : spec_l9Order.l7 x =
  (bif (decide (x.1 = 1)) then (bif (decide (x.2.2.1 = x.2.1)) then ((spec_l9Lines.f x.2.2.2).bind fun y1 =>
    some y1) else (some false)) else
  (bif (decide (x.1 = 2)) then (bif (decide (x.2.2.1 = x.2.1)) then (bif (decide (x.2.1 ≥ 1)) then ((spec_l9Lines.f x.2.2.2).bind fun y1 =>
      some y1) else (some false)) else (some false)) else
   (bif (decide (x.1 = 3)) then (bif (decide (x.2.1 ≥ 1)) then ((spec_l9Lines.f x.2.2.2).bind fun y1 =>
      some y1) else (some false)) else
    (bif (decide (x.1 = 4)) then (bif (decide (x.2.1 ≥ 1)) then (some (decide ((x.2.2.2.length : Int) = 0))) else (some false)) else
     (bif (decide (x.1 = 5)) then (bif (decide (x.2.1 ≥ 1)) then (bif (decide (x.2.2.1 = x.2.1)) then (some (decide ((x.2.2.2.length : Int) = 0))) else (some false)) else (some false)) else (some false)))))) :=
  (fixP_eq spec_l9Order.E spec_l9Order.T spec_l9Order.C spec_l9Order.K 7 spec_l9Order.D7 x).trans (by kernel_rfl)
theorem spec_l9Order.f_eq (x : Int × Int × Int × List ByteArray) : spec_l9Order.f x =
  ((spec_l1In.f x.2.1 0 1000).bind fun y1 =>
  bif (!y1) then (some false) else
  ((spec_l1In.f x.2.2.1 x.2.1 1000).bind fun y2 =>
   bif (!y2) then (some false) else
   (spec_l9Order.l7 x))) := by kernel_rfl
noncomputable def spec_l9Order.S : Abs.Sum := ⟨spec_l9Order.P, spec_l9Order.R, fun _ => Fn spec_l9Order.E spec_l9Order.T spec_l9Order.C spec_l9Order.P spec_l9Order.R spec_l9Order.X⟩
theorem spec_l9Order.meets : Meets Try.prog 76 spec_l9Order.S := meets_tab (S := spec_l9Order.U) tabOk_all (AllMeets.cons spec_l1In.meets (AllMeets.cons spec_l9Lines.meets AllMeets.nil)) (AllStill.cons (fun _ _ _ => rfl) (AllStill.cons (fun _ _ _ => rfl) AllStill.nil)) follows (by kernel_rfl : Try.prog.funcs[76]? = some Try.f76) (by kernel_rfl) (by kernel_rfl) (by kernel_rfl)
noncomputable def spec_l9Good.C : Code := Try.f50.body.getD .skip
def spec_l9Good.P : Par := (.cons (.val (.list (.pair (.int .i64) (.pair (.int .i64) (.pair (.int .i64) (.one (.list .str))))))) .nil)
noncomputable def spec_l9Good.U : SumTab := [(76, [], spec_l9Order.S)]
noncomputable def spec_l9Good.E : Env := mkEnv TY AR spec_l9Good.U
def spec_l9Good.D4 : CutD := ⟨[0, 5, 6, 7], (.cons (.val (.list (.pair (.int .i64) (.pair (.int .i64) (.pair (.int .i64) (.one (.list .str))))))) (.cons (.val (.list (.pair (.int .i64) (.pair (.int .i64) (.pair (.int .i64) (.one (.list .str))))))) (.cons (.val (.int .i64)) (.cons (.val (.int .i64)) .nil))))⟩
noncomputable def spec_l9Good.T : Tab := fun k => look k [(4, spec_l9Good.D4)]
def spec_l9Good.R : List (Nat × Ty) := [(0, .bool)]
def spec_l9Good.X : List ResultVar := [.tmp 2]
noncomputable def spec_l9Good.K := fin spec_l9Good.E ⟨spec_l9Good.P, spec_l9Good.R, fun _ _ => none⟩ spec_l9Good.X spec_l9Good.P.len 0
noncomputable def spec_l9Good.l4 (o : List (Int × Int × Int × List ByteArray)) (t5 : List (Int × Int × Int × List ByteArray)) (t6 : Int) (t7 : Int) : Option (Bool) := fixP spec_l9Good.E spec_l9Good.T spec_l9Good.C spec_l9Good.K 4 spec_l9Good.D4 (o, t5, t6, t7)
noncomputable def spec_l9Good.f (o : List (Int × Int × Int × List ByteArray)) : Option (Bool) := Fn spec_l9Good.E spec_l9Good.T spec_l9Good.C spec_l9Good.P spec_l9Good.R spec_l9Good.X o
theorem spec_l9Good.l4_eq (o : List (Int × Int × Int × List ByteArray)) (t5 : List (Int × Int × Int × List ByteArray)) (t6 : Int) (t7 : Int) : spec_l9Good.l4 o t5 t6 t7 =
  (bif (decide (t7 < t6)) then (bif ((decide (0 ≤ t7)) && (decide (t7 < (t5.length : Int)))) then ((spec_l9Order.f (t5.getD (t7).toNat (0, 0, 0, ([] : List ByteArray)))).bind fun y1 =>
    bif (!y1) then (some false) else
    (spec_l9Good.l4 o t5 t6 (w64 (t7 + 1)))) else none) else (some (decide ((o.length : Int) ≤ 60)))) :=
  (fixP_eq spec_l9Good.E spec_l9Good.T spec_l9Good.C spec_l9Good.K 4 spec_l9Good.D4 (o, t5, t6, t7)).trans (by kernel_rfl)
theorem spec_l9Good.f_eq (o : List (Int × Int × Int × List ByteArray)) : spec_l9Good.f o =
  (spec_l9Good.l4 o o (o.length : Int) 0) := by kernel_rfl
noncomputable def spec_l9Good.S : Abs.Sum := ⟨spec_l9Good.P, spec_l9Good.R, fun _ => Fn spec_l9Good.E spec_l9Good.T spec_l9Good.C spec_l9Good.P spec_l9Good.R spec_l9Good.X⟩
theorem spec_l9Good.meets : Meets Try.prog 50 spec_l9Good.S := meets_tab (S := spec_l9Good.U) tabOk_all (AllMeets.cons spec_l9Order.meets AllMeets.nil) (AllStill.cons (fun _ _ _ => rfl) AllStill.nil) follows (by kernel_rfl : Try.prog.funcs[50]? = some Try.f50) (by kernel_rfl) (by kernel_rfl) (by kernel_rfl)
noncomputable def spec_l9Do.C : Code := Try.f77.body.getD .skip
def spec_l9Do.P : Par := (.cons (.val (.list .str)) (.cons (.val (.pair (.int .i64) (.pair (.int .i64) (.pair (.int .i64) (.one (.list .str)))))) .nil))
noncomputable def spec_l9Do.U : SumTab := [(32, [], spec_l1OwnT.S)]
noncomputable def spec_l9Do.E : Env := mkEnv TY AR spec_l9Do.U
def spec_l9Do.D27 : CutD := ⟨[0, 6, 7, 8], (.cons (.val (.list .str)) (.cons (.val (.int .i64)) (.cons (.val (.int .i64)) (.cons (.val .str) .nil))))⟩
def spec_l9Do.D29 : CutD := ⟨[0, 3, 6, 7], (.cons (.val (.list .str)) (.cons (.box 0 (.pair (.int .i64) (.pair (.int .i64) (.pair (.int .i64) (.one (.list .str)))))) (.cons (.val (.int .i64)) (.cons (.val (.int .i64)) .nil))))⟩
noncomputable def spec_l9Do.T : Tab := fun k => look k [(27, spec_l9Do.D27), (29, spec_l9Do.D29)]
def spec_l9Do.R : List (Nat × Ty) := [(9, .list .str), (0, .int .i64)]
def spec_l9Do.X : List ResultVar := [.tmp 4, .tmp 5]
noncomputable def spec_l9Do.K := fin spec_l9Do.E ⟨spec_l9Do.P, spec_l9Do.R, fun _ _ => none⟩ spec_l9Do.X spec_l9Do.P.len 0
noncomputable def spec_l9Do.l27 (l : List ByteArray) (t6 : Int) (t7 : Int) (s : ByteArray) : Option ((List ByteArray) × Int) := fixP spec_l9Do.E spec_l9Do.T spec_l9Do.C spec_l9Do.K 27 spec_l9Do.D27 (l, t6, t7, s)
noncomputable def spec_l9Do.l29 (l : List ByteArray) (x : Int × Int × Int × List ByteArray) (t6 : Int) (t7 : Int) : Option ((List ByteArray) × Int) := fixP spec_l9Do.E spec_l9Do.T spec_l9Do.C spec_l9Do.K 29 spec_l9Do.D29 (l, x, t6, t7)
noncomputable def spec_l9Do.f (l : List ByteArray) (x : Int × Int × Int × List ByteArray) : Option ((List ByteArray) × Int) := Fn spec_l9Do.E spec_l9Do.T spec_l9Do.C spec_l9Do.P spec_l9Do.R spec_l9Do.X (l, x)
theorem spec_l9Do.l27_eq (l : List ByteArray) (t6 : Int) (t7 : Int) (s : ByteArray) : spec_l9Do.l27 l t6 t7 s =
  (bif ((decide (0 ≤ t6)) && (decide (t6 ≤ (l.length : Int)))) then ((spec_l1OwnT.f (l.take (t6).toNat)).bind fun y1 =>
   bif (decide (1 ≤ (s.size : Int))) then (bif (decide ((y1.length + [(s.extract 1 s.size)].length) ≤ room 16)) then (bif ((decide (0 ≤ t7)) && (decide (t7 ≤ (l.length : Int)))) then (bif (decide (((y1 ++ [(s.extract 1 s.size)]).length + (l.drop (t7).toNat).length) ≤ room 16)) then (some (((y1 ++ [(s.extract 1 s.size)]) ++ (l.drop (t7).toNat)), 0)) else none) else none) else none) else none) else none) :=
  (fixP_eq spec_l9Do.E spec_l9Do.T spec_l9Do.C spec_l9Do.K 27 spec_l9Do.D27 (l, t6, t7, s)).trans (by kernel_rfl)
theorem spec_l9Do.l29_eq (l : List ByteArray) (x : Int × Int × Int × List ByteArray) (t6 : Int) (t7 : Int) : spec_l9Do.l29 l x t6 t7 =
  (bif ((decide (0 ≤ t6)) && (decide (t6 ≤ (l.length : Int)))) then ((spec_l1OwnT.f (l.take (t6).toNat)).bind fun y1 =>
   bif (decide ((y1.length + x.2.2.2.length) ≤ room 16)) then (bif ((decide (0 ≤ t7)) && (decide (t7 ≤ (l.length : Int)))) then (bif (decide (((y1 ++ x.2.2.2).length + (l.drop (t7).toNat).length) ≤ room 16)) then (some (((y1 ++ x.2.2.2) ++ (l.drop (t7).toNat)), 0)) else none) else none) else none) else none) :=
  (fixP_eq spec_l9Do.E spec_l9Do.T spec_l9Do.C spec_l9Do.K 29 spec_l9Do.D29 (l, x, t6, t7)).trans (by kernel_rfl)
theorem spec_l9Do.f_eq (l : List ByteArray) (x : Int × Int × Int × List ByteArray) : spec_l9Do.f l x =
  (bif (decide (x.2.2.1 > (l.length : Int))) then (some (([] : List ByteArray), 3)) else
  (bif (decide (x.1 = 1)) then (spec_l9Do.l29 l x x.2.1 x.2.2.1) else
   (bif (decide (x.1 = 2)) then (spec_l9Do.l29 l x (w64 (x.2.1 - 1)) (w64 (x.2.1 - 1))) else
    (bif (decide (x.1 = 5)) then (bif ((decide (0 ≤ (w64 (x.2.1 - 1)))) && (decide ((w64 (x.2.1 - 1)) < (l.length : Int)))) then (bif (decide (0 < ((l.getD ((w64 (x.2.1 - 1))).toNat em).size : Int))) then (bif (!(decide ((bt (l.getD ((w64 (x.2.1 - 1))).toNat em) 0) = 46))) then (some (([] : List ByteArray), 2)) else
        (bif ((l.getD ((w64 (x.2.1 - 1))).toNat em).toList == (⟨#[46, 10]⟩ : ByteArray).toList) then (some (([] : List ByteArray), 2)) else
         (spec_l9Do.l27 l (w64 (x.2.1 - 1)) x.2.2.1 (l.getD ((w64 (x.2.1 - 1))).toNat em)))) else none) else none) else
     (spec_l9Do.l29 l x (w64 (x.2.1 - 1)) x.2.2.1))))) := by kernel_rfl
noncomputable def spec_l9Do.S : Abs.Sum := ⟨spec_l9Do.P, spec_l9Do.R, fun _ => Fn spec_l9Do.E spec_l9Do.T spec_l9Do.C spec_l9Do.P spec_l9Do.R spec_l9Do.X⟩
theorem spec_l9Do.meets : Meets Try.prog 77 spec_l9Do.S := meets_tab (S := spec_l9Do.U) tabOk_all (AllMeets.cons spec_l1OwnT.meets AllMeets.nil) (AllStill.cons (fun _ _ _ => rfl) AllStill.nil) follows (by kernel_rfl : Try.prog.funcs[77]? = some Try.f77) (by kernel_rfl) (by kernel_rfl) (by kernel_rfl)
noncomputable def spec_l9Run.C : Code := Try.f51.body.getD .skip
def spec_l9Run.P : Par := (.cons (.val (.list .str)) (.cons (.val (.list (.pair (.int .i64) (.pair (.int .i64) (.pair (.int .i64) (.one (.list .str))))))) .nil))
noncomputable def spec_l9Run.U : SumTab := [(32, [], spec_l1OwnT.S), (61, [], spec_l1Ends.S), (77, [], spec_l9Do.S), (29, [], spec_l1Good.S)]
noncomputable def spec_l9Run.E : Env := mkEnv TY AR spec_l9Run.U
def spec_l9Run.D11 : CutD := ⟨[1, 6], (.cons (.val (.list (.pair (.int .i64) (.pair (.int .i64) (.pair (.int .i64) (.one (.list .str))))))) (.cons (.own 8 .str) .nil))⟩
def spec_l9Run.D12 : CutD := ⟨[6, 34, 35, 36], (.cons (.own 8 .str) (.cons (.val (.list (.pair (.int .i64) (.pair (.int .i64) (.pair (.int .i64) (.one (.list .str))))))) (.cons (.val (.int .i64)) (.cons (.val (.int .i64)) .nil))))⟩
noncomputable def spec_l9Run.T : Tab := fun k => look k [(11, spec_l9Run.D11), (12, spec_l9Run.D12)]
def spec_l9Run.R : List (Nat × Ty) := [(9, .list .str), (0, .int .i64)]
def spec_l9Run.X : List ResultVar := [.tmp 4, .tmp 5]
noncomputable def spec_l9Run.K := fin spec_l9Run.E ⟨spec_l9Run.P, spec_l9Run.R, fun _ _ => none⟩ spec_l9Run.X spec_l9Run.P.len 0
noncomputable def spec_l9Run.l11 (o : List (Int × Int × Int × List ByteArray)) (out : List ByteArray) : Option ((List ByteArray) × Int) := fixP spec_l9Run.E spec_l9Run.T spec_l9Run.C spec_l9Run.K 11 spec_l9Run.D11 (o, out)
noncomputable def spec_l9Run.l12 (out : List ByteArray) (t34 : List (Int × Int × Int × List ByteArray)) (t35 : Int) (t36 : Int) : Option ((List ByteArray) × Int) := fixP spec_l9Run.E spec_l9Run.T spec_l9Run.C spec_l9Run.K 12 spec_l9Run.D12 (out, t34, t35, t36)
noncomputable def spec_l9Run.f (l : List ByteArray) (o : List (Int × Int × Int × List ByteArray)) : Option ((List ByteArray) × Int) := Fn spec_l9Run.E spec_l9Run.T spec_l9Run.C spec_l9Run.P spec_l9Run.R spec_l9Run.X (l, o)
theorem spec_l9Run.l11_eq (o : List (Int × Int × Int × List ByteArray)) (out : List ByteArray) : spec_l9Run.l11 o out =
  (spec_l9Run.l12 out o (o.length : Int) 0) :=
  (fixP_eq spec_l9Run.E spec_l9Run.T spec_l9Run.C spec_l9Run.K 11 spec_l9Run.D11 (o, out)).trans (by kernel_rfl)
theorem spec_l9Run.l12_eq (out : List ByteArray) (t34 : List (Int × Int × Int × List ByteArray)) (t35 : Int) (t36 : Int) : spec_l9Run.l12 out t34 t35 t36 =
  (bif (decide (t36 < t35)) then (bif ((decide (0 ≤ t36)) && (decide (t36 < (t34.length : Int)))) then ((spec_l9Do.f out (t34.getD (t36).toNat (0, 0, 0, ([] : List ByteArray)))).bind fun y1 =>
    bif (decide (y1.2 > 0)) then (some (([] : List ByteArray), y1.2)) else
    (spec_l9Run.l12 y1.1 t34 t35 (w64 (t36 + 1)))) else none) else
  ((spec_l1Good.f out).bind fun y1 =>
   bif (!y1) then (some (([] : List ByteArray), 2)) else (some (out, 0)))) :=
  (fixP_eq spec_l9Run.E spec_l9Run.T spec_l9Run.C spec_l9Run.K 12 spec_l9Run.D12 (out, t34, t35, t36)).trans (by kernel_rfl)
theorem spec_l9Run.f_eq (l : List ByteArray) (o : List (Int × Int × Int × List ByteArray)) : spec_l9Run.f l o =
  ((spec_l1OwnT.f l).bind fun y1 =>
  bif (decide ((y1.length : Int) > 0)) then (bif ((decide (0 ≤ (w64 ((y1.length : Int) - 1)))) && (decide ((w64 ((y1.length : Int) - 1)) < (y1.length : Int)))) then ((spec_l1Ends.f (y1.getD ((w64 ((y1.length : Int) - 1))).toNat em)).bind fun y2 =>
    bif (!y2) then (bif ((decide (0 ≤ (w64 ((y1.length : Int) - 1)))) && (decide ((w64 ((y1.length : Int) - 1)) < (y1.length : Int)))) then (bif (decide (((y1.getD ((w64 ((y1.length : Int) - 1))).toNat em).size + (⟨#[10]⟩ : ByteArray).size) ≤ 9223372036854775807)) then (bif ((decide (0 ≤ (w64 ((y1.length : Int) - 1)))) && (decide ((w64 ((y1.length : Int) - 1)) < (y1.length : Int)))) then (spec_l9Run.l11 o (y1.set ((w64 ((y1.length : Int) - 1))).toNat ((y1.getD ((w64 ((y1.length : Int) - 1))).toNat em) ++ (⟨#[10]⟩ : ByteArray)))) else none) else none) else none) else
    (spec_l9Run.l11 o y1)) else none) else
  (spec_l9Run.l11 o y1)) := by kernel_rfl
noncomputable def spec_l9Run.S : Abs.Sum := ⟨spec_l9Run.P, spec_l9Run.R, fun _ => Fn spec_l9Run.E spec_l9Run.T spec_l9Run.C spec_l9Run.P spec_l9Run.R spec_l9Run.X⟩
theorem spec_l9Run.meets : Meets Try.prog 51 spec_l9Run.S := meets_tab (S := spec_l9Run.U) tabOk_all (AllMeets.cons spec_l1OwnT.meets (AllMeets.cons spec_l1Ends.meets (AllMeets.cons spec_l9Do.meets (AllMeets.cons spec_l1Good.meets AllMeets.nil)))) (AllStill.cons (fun _ _ _ => rfl) (AllStill.cons (fun _ _ _ => rfl) (AllStill.cons (fun _ _ _ => rfl) (AllStill.cons (fun _ _ _ => rfl) AllStill.nil)))) follows (by kernel_rfl : Try.prog.funcs[51]? = some Try.f51) (by kernel_rfl) (by kernel_rfl) (by kernel_rfl)
noncomputable def spec_l1Most.C : Code := Try.f117.body.getD .skip
def spec_l1Most.P : Par := (.cons (.val (.int .i64)) (.cons (.val (.int .i64)) .nil))
noncomputable def spec_l1Most.U : SumTab := []
noncomputable def spec_l1Most.E : Env := mkEnv TY AR spec_l1Most.U
noncomputable def spec_l1Most.T : Tab := fun k => look k []
def spec_l1Most.R : List (Nat × Ty) := [(0, .int .i64)]
def spec_l1Most.X : List ResultVar := [.tmp 4]
noncomputable def spec_l1Most.f (a : Int) (b : Int) : Option (Int) := Fn spec_l1Most.E spec_l1Most.T spec_l1Most.C spec_l1Most.P spec_l1Most.R spec_l1Most.X (a, b)
theorem spec_l1Most.f_eq (a : Int) (b : Int) : spec_l1Most.f a b =
  (bif (decide (a > b)) then (some a) else (some b)) := by kernel_rfl
noncomputable def spec_l1Most.S : Abs.Sum := ⟨spec_l1Most.P, spec_l1Most.R, fun _ => Fn spec_l1Most.E spec_l1Most.T spec_l1Most.C spec_l1Most.P spec_l1Most.R spec_l1Most.X⟩
theorem spec_l1Most.meets : Meets Try.prog 117 spec_l1Most.S := meets_tab (S := spec_l1Most.U) tabOk_all AllMeets.nil AllStill.nil follows (by kernel_rfl : Try.prog.funcs[117]? = some Try.f117) (by kernel_rfl) (by kernel_rfl) (by kernel_rfl)
noncomputable def spec_l3Table.C : Code := Try.f109.body.getD .skip
def spec_l3Table.P : Par := (.cons (.val (.list .str)) (.cons (.val (.list .str)) .nil))
noncomputable def spec_l3Table.U : SumTab := [(117, [], spec_l1Most.S)]
noncomputable def spec_l3Table.E : Env := mkEnv TY AR spec_l3Table.U
def spec_l3Table.D6 : CutD := ⟨[0, 1, 5, 14, 15], (.cons (.val (.list .str)) (.cons (.val (.list .str)) (.cons (.own 9 (.list (.int .i64))) (.cons (.val (.int .i64)) (.cons (.val (.int .i64)) .nil)))))⟩
def spec_l3Table.D16 : CutD := ⟨[0, 1, 5, 7], (.cons (.val (.list .str)) (.cons (.val (.list .str)) (.cons (.own 9 (.list (.int .i64))) (.cons (.val (.int .i64)) .nil))))⟩
def spec_l3Table.D22 : CutD := ⟨[0, 1, 5, 7, 8], (.cons (.val (.list .str)) (.cons (.val (.list .str)) (.cons (.own 9 (.list (.int .i64))) (.cons (.val (.int .i64)) (.cons (.val (.int .i64)) .nil)))))⟩
noncomputable def spec_l3Table.T : Tab := fun k => look k [(6, spec_l3Table.D6), (16, spec_l3Table.D16), (22, spec_l3Table.D22)]
def spec_l3Table.R : List (Nat × Ty) := [(9, .list (.list (.int .i64)))]
def spec_l3Table.X : List ResultVar := [.tmp 4]
noncomputable def spec_l3Table.K := fin spec_l3Table.E ⟨spec_l3Table.P, spec_l3Table.R, fun _ _ => none⟩ spec_l3Table.X spec_l3Table.P.len 0
noncomputable def spec_l3Table.l6 (a : List ByteArray) (b : List ByteArray) (t : List (List Int)) (t14 : Int) (t15 : Int) : Option ((List (List Int))) := fixP spec_l3Table.E spec_l3Table.T spec_l3Table.C spec_l3Table.K 6 spec_l3Table.D6 (a, b, t, t14, t15)
noncomputable def spec_l3Table.l16 (a : List ByteArray) (b : List ByteArray) (t : List (List Int)) (i : Int) : Option ((List (List Int))) := fixP spec_l3Table.E spec_l3Table.T spec_l3Table.C spec_l3Table.K 16 spec_l3Table.D16 (a, b, t, i)
noncomputable def spec_l3Table.l22 (a : List ByteArray) (b : List ByteArray) (t : List (List Int)) (i : Int) (j : Int) : Option ((List (List Int))) := fixP spec_l3Table.E spec_l3Table.T spec_l3Table.C spec_l3Table.K 22 spec_l3Table.D22 (a, b, t, i, j)
noncomputable def spec_l3Table.f (a : List ByteArray) (b : List ByteArray) : Option ((List (List Int))) := Fn spec_l3Table.E spec_l3Table.T spec_l3Table.C spec_l3Table.P spec_l3Table.R spec_l3Table.X (a, b)
theorem spec_l3Table.l6_eq (a : List ByteArray) (b : List ByteArray) (t : List (List Int)) (t14 : Int) (t15 : Int) : spec_l3Table.l6 a b t t14 t15 =
  (bif (decide (t15 < t14)) then (bif ((decide (0 ≤ (w64 ((b.length : Int) + 1)))) && (decide (((w64 ((b.length : Int) + 1))).toNat ≤ room 8))) then (bif ((decide (0 ≤ t15)) && (decide (t15 < (t.length : Int)))) then (spec_l3Table.l6 a b (t.set (t15).toNat (List.replicate ((w64 ((b.length : Int) + 1))).toNat 0)) t14 (w64 (t15 + 1))) else none) else none) else
  (spec_l3Table.l16 a b t (w64 ((a.length : Int) - 1)))) :=
  (fixP_eq spec_l3Table.E spec_l3Table.T spec_l3Table.C spec_l3Table.K 6 spec_l3Table.D6 (a, b, t, t14, t15)).trans (by kernel_rfl)
theorem spec_l3Table.l16_eq (a : List ByteArray) (b : List ByteArray) (t : List (List Int)) (i : Int) : spec_l3Table.l16 a b t i =
  (bif (decide (i ≥ 0)) then (spec_l3Table.l22 a b t i (w64 ((b.length : Int) - 1))) else (some t)) :=
  (fixP_eq spec_l3Table.E spec_l3Table.T spec_l3Table.C spec_l3Table.K 16 spec_l3Table.D16 (a, b, t, i)).trans (by kernel_rfl)
theorem spec_l3Table.l22_eq (a : List ByteArray) (b : List ByteArray) (t : List (List Int)) (i : Int) (j : Int) : spec_l3Table.l22 a b t i j =
  (bif (decide (j ≥ 0)) then (bif ((decide (0 ≤ i)) && (decide (i < (t.length : Int)))) then (bif ((decide (0 ≤ (w64 (i + 1)))) && (decide ((w64 (i + 1)) < (t.length : Int)))) then (bif ((decide (0 ≤ j)) && (decide (j < ((t.getD ((w64 (i + 1))).toNat ([] : List Int)).length : Int)))) then (bif ((decide (0 ≤ i)) && (decide (i < (t.length : Int)))) then (bif ((decide (0 ≤ (w64 (j + 1)))) && (decide ((w64 (j + 1)) < ((t.getD (i).toNat ([] : List Int)).length : Int)))) then ((spec_l1Most.f ((t.getD ((w64 (i + 1))).toNat ([] : List Int)).getD (j).toNat 0) ((t.getD (i).toNat ([] : List Int)).getD ((w64 (j + 1))).toNat 0)).bind fun y1 =>
        bif ((decide (0 ≤ j)) && (decide (j < ((t.getD (i).toNat ([] : List Int)).length : Int)))) then (bif ((decide (0 ≤ i)) && (decide (i < (a.length : Int)))) then (bif ((decide (0 ≤ j)) && (decide (j < (b.length : Int)))) then (bif ((a.getD (i).toNat em).toList == (b.getD (j).toNat em).toList) then (bif ((decide (0 ≤ i)) && (decide (i < ((t.set (i).toNat ((t.getD (i).toNat ([] : List Int)).set (j).toNat y1)).length : Int)))) then (bif ((decide (0 ≤ i)) && (decide (i < ((t.set (i).toNat ((t.getD (i).toNat ([] : List Int)).set (j).toNat y1)).length : Int)))) then (bif ((decide (0 ≤ j)) && (decide (j < (((t.set (i).toNat ((t.getD (i).toNat ([] : List Int)).set (j).toNat y1)).getD (i).toNat ([] : List Int)).length : Int)))) then (bif ((decide (0 ≤ (w64 (i + 1)))) && (decide ((w64 (i + 1)) < ((t.set (i).toNat ((t.getD (i).toNat ([] : List Int)).set (j).toNat y1)).length : Int)))) then (bif ((decide (0 ≤ (w64 (j + 1)))) && (decide ((w64 (j + 1)) < (((t.set (i).toNat ((t.getD (i).toNat ([] : List Int)).set (j).toNat y1)).getD ((w64 (i + 1))).toNat ([] : List Int)).length : Int)))) then ((spec_l1Most.f (((t.set (i).toNat ((t.getD (i).toNat ([] : List Int)).set (j).toNat y1)).getD (i).toNat ([] : List Int)).getD (j).toNat 0) (w64 ((((t.set (i).toNat ((t.getD (i).toNat ([] : List Int)).set (j).toNat y1)).getD ((w64 (i + 1))).toNat ([] : List Int)).getD ((w64 (j + 1))).toNat 0) + 1))).bind fun y2 =>
                 bif ((decide (0 ≤ j)) && (decide (j < (((t.set (i).toNat ((t.getD (i).toNat ([] : List Int)).set (j).toNat y1)).getD (i).toNat ([] : List Int)).length : Int)))) then (spec_l3Table.l22 a b ((t.set (i).toNat ((t.getD (i).toNat ([] : List Int)).set (j).toNat y1)).set (i).toNat (((t.set (i).toNat ((t.getD (i).toNat ([] : List Int)).set (j).toNat y1)).getD (i).toNat ([] : List Int)).set (j).toNat y2)) i (w64 (j - 1))) else none) else none) else none) else none) else none) else none) else
           (spec_l3Table.l22 a b (t.set (i).toNat ((t.getD (i).toNat ([] : List Int)).set (j).toNat y1)) i (w64 (j - 1)))) else none) else none) else none) else none) else none) else none) else none) else none) else
  (spec_l3Table.l16 a b t (w64 (i - 1)))) :=
  (fixP_eq spec_l3Table.E spec_l3Table.T spec_l3Table.C spec_l3Table.K 22 spec_l3Table.D22 (a, b, t, i, j)).trans (by kernel_rfl)
theorem spec_l3Table.f_eq (a : List ByteArray) (b : List ByteArray) : spec_l3Table.f a b =
  (bif ((decide (0 ≤ (w64 ((a.length : Int) + 1)))) && (decide (((w64 ((a.length : Int) + 1))).toNat ≤ room 24))) then (spec_l3Table.l6 a b (List.replicate ((w64 ((a.length : Int) + 1))).toNat ([] : List Int)) ((List.replicate ((w64 ((a.length : Int) + 1))).toNat ([] : List Int)).length : Int) 0) else none) := by kernel_rfl
noncomputable def spec_l3Table.S : Abs.Sum := ⟨spec_l3Table.P, spec_l3Table.R, fun _ => Fn spec_l3Table.E spec_l3Table.T spec_l3Table.C spec_l3Table.P spec_l3Table.R spec_l3Table.X⟩
theorem spec_l3Table.meets : Meets Try.prog 109 spec_l3Table.S := meets_tab (S := spec_l3Table.U) tabOk_all (AllMeets.cons spec_l1Most.meets AllMeets.nil) (AllStill.cons (fun _ _ _ => rfl) AllStill.nil) follows (by kernel_rfl : Try.prog.funcs[109]? = some Try.f109) (by kernel_rfl) (by kernel_rfl) (by kernel_rfl)
noncomputable def spec_l3Pairs.C : Code := Try.f97.body.getD .skip
def spec_l3Pairs.P : Par := (.cons (.val (.list .str)) (.cons (.val (.list .str)) .nil))
noncomputable def spec_l3Pairs.U : SumTab := [(109, [], spec_l3Table.S)]
noncomputable def spec_l3Pairs.E : Env := mkEnv TY AR spec_l3Pairs.U
def spec_l3Pairs.D8 : CutD := ⟨[0, 1, 5, 6, 7, 8], (.cons (.val (.list .str)) (.cons (.val (.list .str)) (.cons (.own 8 (.list (.int .i64))) (.cons (.own 9 (.pair (.int .i64) (.one (.int .i64)))) (.cons (.val (.int .i64)) (.cons (.val (.int .i64)) .nil))))))⟩
def spec_l3Pairs.D14 : CutD := ⟨[0, 1, 5, 6, 7, 8, 9, 10, 11], (.cons (.val (.list .str)) (.cons (.val (.list .str)) (.cons (.own 8 (.list (.int .i64))) (.cons (.own 9 (.pair (.int .i64) (.one (.int .i64)))) (.cons (.val (.int .i64)) (.cons (.val (.int .i64)) (.cons (.val (.int .i64)) (.cons (.val (.int .i64)) (.cons (.val (.int .i64)) .nil)))))))))⟩
def spec_l3Pairs.D20 : CutD := ⟨[0, 1, 5, 6, 7, 8, 9, 10, 11, 12], (.cons (.val (.list .str)) (.cons (.val (.list .str)) (.cons (.own 8 (.list (.int .i64))) (.cons (.own 9 (.pair (.int .i64) (.one (.int .i64)))) (.cons (.val (.int .i64)) (.cons (.val (.int .i64)) (.cons (.val (.int .i64)) (.cons (.val (.int .i64)) (.cons (.val (.int .i64)) (.cons (.val (.int .i64)) .nil))))))))))⟩
noncomputable def spec_l3Pairs.T : Tab := fun k => look k [(8, spec_l3Pairs.D8), (14, spec_l3Pairs.D14), (20, spec_l3Pairs.D20)]
def spec_l3Pairs.R : List (Nat × Ty) := [(9, .list (.pair (.int .i64) (.one (.int .i64))))]
def spec_l3Pairs.X : List ResultVar := [.tmp 4]
noncomputable def spec_l3Pairs.K := fin spec_l3Pairs.E ⟨spec_l3Pairs.P, spec_l3Pairs.R, fun _ _ => none⟩ spec_l3Pairs.X spec_l3Pairs.P.len 0
noncomputable def spec_l3Pairs.l8 (a : List ByteArray) (b : List ByteArray) (t : List (List Int)) (out : List (Int × Int)) (i : Int) (j : Int) : Option ((List (Int × Int))) := fixP spec_l3Pairs.E spec_l3Pairs.T spec_l3Pairs.C spec_l3Pairs.K 8 spec_l3Pairs.D8 (a, b, t, out, i, j)
noncomputable def spec_l3Pairs.l14 (a : List ByteArray) (b : List ByteArray) (t : List (List Int)) (out : List (Int × Int)) (i : Int) (j : Int) (x : Int) (y : Int) (p : Int) : Option ((List (Int × Int))) := fixP spec_l3Pairs.E spec_l3Pairs.T spec_l3Pairs.C spec_l3Pairs.K 14 spec_l3Pairs.D14 (a, b, t, out, i, j, x, y, p)
noncomputable def spec_l3Pairs.l20 (a : List ByteArray) (b : List ByteArray) (t : List (List Int)) (out : List (Int × Int)) (i : Int) (j : Int) (x : Int) (y : Int) (p : Int) (q : Int) : Option ((List (Int × Int))) := fixP spec_l3Pairs.E spec_l3Pairs.T spec_l3Pairs.C spec_l3Pairs.K 20 spec_l3Pairs.D20 (a, b, t, out, i, j, x, y, p, q)
noncomputable def spec_l3Pairs.f (a : List ByteArray) (b : List ByteArray) : Option ((List (Int × Int))) := Fn spec_l3Pairs.E spec_l3Pairs.T spec_l3Pairs.C spec_l3Pairs.P spec_l3Pairs.R spec_l3Pairs.X (a, b)
theorem spec_l3Pairs.l8_eq (a : List ByteArray) (b : List ByteArray) (t : List (List Int)) (out : List (Int × Int)) (i : Int) (j : Int) : spec_l3Pairs.l8 a b t out i j =
  (bif ((decide (0 ≤ i)) && (decide (i < (t.length : Int)))) then (bif ((decide (0 ≤ j)) && (decide (j < ((t.getD (i).toNat ([] : List Int)).length : Int)))) then (bif (decide (((t.getD (i).toNat ([] : List Int)).getD (j).toNat 0) > 0)) then (spec_l3Pairs.l14 a b t out i j (a.length : Int) (b.length : Int) (w64 ((a.length : Int) - 1))) else (some out)) else none) else none) :=
  (fixP_eq spec_l3Pairs.E spec_l3Pairs.T spec_l3Pairs.C spec_l3Pairs.K 8 spec_l3Pairs.D8 (a, b, t, out, i, j)).trans (by kernel_rfl)
theorem spec_l3Pairs.l14_eq (a : List ByteArray) (b : List ByteArray) (t : List (List Int)) (out : List (Int × Int)) (i : Int) (j : Int) (x : Int) (y : Int) (p : Int) : spec_l3Pairs.l14 a b t out i j x y p =
  (bif (decide (p ≥ i)) then (spec_l3Pairs.l20 a b t out i j x y p (w64 ((b.length : Int) - 1))) else
  (bif (decide ((out.length + [(x, y)].length) ≤ room 16)) then (spec_l3Pairs.l8 a b t (out ++ [(x, y)]) (w64 (x + 1)) (w64 (y + 1))) else none)) :=
  (fixP_eq spec_l3Pairs.E spec_l3Pairs.T spec_l3Pairs.C spec_l3Pairs.K 14 spec_l3Pairs.D14 (a, b, t, out, i, j, x, y, p)).trans (by kernel_rfl)
theorem spec_l3Pairs.l20_eq (a : List ByteArray) (b : List ByteArray) (t : List (List Int)) (out : List (Int × Int)) (i : Int) (j : Int) (x : Int) (y : Int) (p : Int) (q : Int) : spec_l3Pairs.l20 a b t out i j x y p q =
  (bif (decide (q ≥ j)) then (bif ((decide (0 ≤ p)) && (decide (p < (a.length : Int)))) then (bif ((decide (0 ≤ q)) && (decide (q < (b.length : Int)))) then (bif ((a.getD (p).toNat em).toList == (b.getD (q).toNat em).toList) then (bif ((decide (0 ≤ (w64 (p + 1)))) && (decide ((w64 (p + 1)) < (t.length : Int)))) then (bif ((decide (0 ≤ (w64 (q + 1)))) && (decide ((w64 (q + 1)) < ((t.getD ((w64 (p + 1))).toNat ([] : List Int)).length : Int)))) then (bif ((decide (0 ≤ i)) && (decide (i < (t.length : Int)))) then (bif ((decide (0 ≤ j)) && (decide (j < ((t.getD (i).toNat ([] : List Int)).length : Int)))) then (bif (decide ((w64 (((t.getD ((w64 (p + 1))).toNat ([] : List Int)).getD ((w64 (q + 1))).toNat 0) + 1)) = ((t.getD (i).toNat ([] : List Int)).getD (j).toNat 0))) then (spec_l3Pairs.l20 a b t out i j p q p (w64 (q - 1))) else
          (spec_l3Pairs.l20 a b t out i j x y p (w64 (q - 1)))) else none) else none) else none) else none) else
     (spec_l3Pairs.l20 a b t out i j x y p (w64 (q - 1)))) else none) else none) else
  (spec_l3Pairs.l14 a b t out i j x y (w64 (p - 1)))) :=
  (fixP_eq spec_l3Pairs.E spec_l3Pairs.T spec_l3Pairs.C spec_l3Pairs.K 20 spec_l3Pairs.D20 (a, b, t, out, i, j, x, y, p, q)).trans (by kernel_rfl)
theorem spec_l3Pairs.f_eq (a : List ByteArray) (b : List ByteArray) : spec_l3Pairs.f a b =
  ((spec_l3Table.f a b).bind fun y1 =>
  spec_l3Pairs.l8 a b y1 ([] : List (Int × Int)) 0 0) := by kernel_rfl
noncomputable def spec_l3Pairs.S : Abs.Sum := ⟨spec_l3Pairs.P, spec_l3Pairs.R, fun _ => Fn spec_l3Pairs.E spec_l3Pairs.T spec_l3Pairs.C spec_l3Pairs.P spec_l3Pairs.R spec_l3Pairs.X⟩
theorem spec_l3Pairs.meets : Meets Try.prog 97 spec_l3Pairs.S := meets_tab (S := spec_l3Pairs.U) tabOk_all (AllMeets.cons spec_l3Table.meets AllMeets.nil) (AllStill.cons (fun _ _ _ => rfl) AllStill.nil) follows (by kernel_rfl : Try.prog.funcs[97]? = some Try.f97) (by kernel_rfl) (by kernel_rfl) (by kernel_rfl)
noncomputable def spec_l2Join.C : Code := Try.f96.body.getD .skip
def spec_l2Join.P : Par := (.cons (.val (.list .str)) (.cons (.val (.list .str)) (.cons (.own 5 (.pair (.int .i64) (.one (.int .i64)))) .nil)))
noncomputable def spec_l2Join.U : SumTab := [(32, [], spec_l1OwnT.S)]
noncomputable def spec_l2Join.E : Env := mkEnv TY AR spec_l2Join.U
def spec_l2Join.D8 : CutD := ⟨[1, 7, 8, 9, 19, 20, 21], (.cons (.val (.list .str)) (.cons (.own 9 (.pair (.int .i64) (.pair (.int .i64) (.one (.list .str))))) (.cons (.val (.int .i64)) (.cons (.val (.int .i64)) (.cons (.own 9 (.pair (.int .i64) (.one (.int .i64)))) (.cons (.val (.int .i64)) (.cons (.val (.int .i64)) .nil)))))))⟩
def spec_l2Join.D17 : CutD := ⟨[1, 7, 11, 19, 20, 21], (.cons (.val (.list .str)) (.cons (.own 9 (.pair (.int .i64) (.pair (.int .i64) (.one (.list .str))))) (.cons (.box 9 (.pair (.int .i64) (.one (.int .i64)))) (.cons (.own 9 (.pair (.int .i64) (.one (.int .i64)))) (.cons (.val (.int .i64)) (.cons (.val (.int .i64)) .nil))))))⟩
noncomputable def spec_l2Join.T : Tab := fun k => look k [(8, spec_l2Join.D8), (17, spec_l2Join.D17)]
def spec_l2Join.R : List (Nat × Ty) := [(9, .list (.pair (.int .i64) (.pair (.int .i64) (.one (.list .str)))))]
def spec_l2Join.X : List ResultVar := [.tmp 6]
noncomputable def spec_l2Join.K := fin spec_l2Join.E ⟨spec_l2Join.P, spec_l2Join.R, fun _ _ => none⟩ spec_l2Join.X spec_l2Join.P.len 0
noncomputable def spec_l2Join.l8 (last : List ByteArray) (out : List (Int × Int × List ByteArray)) (i : Int) (j : Int) (t19 : List (Int × Int)) (t20 : Int) (t21 : Int) : Option ((List (Int × Int × List ByteArray))) := fixP spec_l2Join.E spec_l2Join.T spec_l2Join.C spec_l2Join.K 8 spec_l2Join.D8 (last, out, i, j, t19, t20, t21)
noncomputable def spec_l2Join.l17 (last : List ByteArray) (out : List (Int × Int × List ByteArray)) (s : Int × Int) (t19 : List (Int × Int)) (t20 : Int) (t21 : Int) : Option ((List (Int × Int × List ByteArray))) := fixP spec_l2Join.E spec_l2Join.T spec_l2Join.C spec_l2Join.K 17 spec_l2Join.D17 (last, out, s, t19, t20, t21)
noncomputable def spec_l2Join.f (first : List ByteArray) (last : List ByteArray) (stay : List (Int × Int)) : Option ((List (Int × Int × List ByteArray))) := Fn spec_l2Join.E spec_l2Join.T spec_l2Join.C spec_l2Join.P spec_l2Join.R spec_l2Join.X (first, last, stay)
theorem spec_l2Join.l8_eq (last : List ByteArray) (out : List (Int × Int × List ByteArray)) (i : Int) (j : Int) (t19 : List (Int × Int)) (t20 : Int) (t21 : Int) : spec_l2Join.l8 last out i j t19 t20 t21 =
  (bif (decide (t21 < t20)) then (bif ((decide (0 ≤ t21)) && (decide (t21 < (t19.length : Int)))) then (bif (decide ((t19.getD (t21).toNat (0, 0)).1 > i)) then (bif ((decide (0 ≤ j)) && ((decide (j ≤ (t19.getD (t21).toNat (0, 0)).2)) && (decide ((t19.getD (t21).toNat (0, 0)).2 ≤ (last.length : Int))))) then ((spec_l1OwnT.f ((last.take ((t19.getD (t21).toNat (0, 0)).2).toNat).drop (j).toNat)).bind fun y1 =>
      bif (decide ((out.length + [(i, (w64 ((t19.getD (t21).toNat (0, 0)).1 - i)), y1)].length) ≤ room 40)) then (spec_l2Join.l17 last (out ++ [(i, (w64 ((t19.getD (t21).toNat (0, 0)).1 - i)), y1)]) (t19.getD (t21).toNat (0, 0)) t19 t20 t21) else none) else none) else
    (bif (decide ((t19.getD (t21).toNat (0, 0)).2 > j)) then (bif ((decide (0 ≤ j)) && ((decide (j ≤ (t19.getD (t21).toNat (0, 0)).2)) && (decide ((t19.getD (t21).toNat (0, 0)).2 ≤ (last.length : Int))))) then ((spec_l1OwnT.f ((last.take ((t19.getD (t21).toNat (0, 0)).2).toNat).drop (j).toNat)).bind fun y1 =>
       bif (decide ((out.length + [(i, (w64 ((t19.getD (t21).toNat (0, 0)).1 - i)), y1)].length) ≤ room 40)) then (spec_l2Join.l17 last (out ++ [(i, (w64 ((t19.getD (t21).toNat (0, 0)).1 - i)), y1)]) (t19.getD (t21).toNat (0, 0)) t19 t20 t21) else none) else none) else
     (spec_l2Join.l17 last out (t19.getD (t21).toNat (0, 0)) t19 t20 t21))) else none) else (some out)) :=
  (fixP_eq spec_l2Join.E spec_l2Join.T spec_l2Join.C spec_l2Join.K 8 spec_l2Join.D8 (last, out, i, j, t19, t20, t21)).trans (by kernel_rfl)
theorem spec_l2Join.l17_eq (last : List ByteArray) (out : List (Int × Int × List ByteArray)) (s : Int × Int) (t19 : List (Int × Int)) (t20 : Int) (t21 : Int) : spec_l2Join.l17 last out s t19 t20 t21 =
  (spec_l2Join.l8 last out (w64 (s.1 + 1)) (w64 (s.2 + 1)) t19 t20 (w64 (t21 + 1))) :=
  (fixP_eq spec_l2Join.E spec_l2Join.T spec_l2Join.C spec_l2Join.K 17 spec_l2Join.D17 (last, out, s, t19, t20, t21)).trans (by kernel_rfl)
theorem spec_l2Join.f_eq (first : List ByteArray) (last : List ByteArray) (stay : List (Int × Int)) : spec_l2Join.f first last stay =
  (bif (decide ((stay.length + [((first.length : Int), (last.length : Int))].length) ≤ room 16)) then (spec_l2Join.l8 last ([] : List (Int × Int × List ByteArray)) 0 0 (stay ++ [((first.length : Int), (last.length : Int))]) ((stay ++ [((first.length : Int), (last.length : Int))]).length : Int) 0) else none) := by kernel_rfl
noncomputable def spec_l2Join.S : Abs.Sum := ⟨spec_l2Join.P, spec_l2Join.R, fun _ => Fn spec_l2Join.E spec_l2Join.T spec_l2Join.C spec_l2Join.P spec_l2Join.R spec_l2Join.X⟩
theorem spec_l2Join.meets : Meets Try.prog 96 spec_l2Join.S := meets_tab (S := spec_l2Join.U) tabOk_all (AllMeets.cons spec_l1OwnT.meets AllMeets.nil) (AllStill.cons (fun _ _ _ => rfl) AllStill.nil) follows (by kernel_rfl : Try.prog.funcs[96]? = some Try.f96) (by kernel_rfl) (by kernel_rfl) (by kernel_rfl)
noncomputable def spec_l3Diff.C : Code := Try.f79.body.getD .skip
def spec_l3Diff.P : Par := (.cons (.val (.list .str)) (.cons (.val (.list .str)) .nil))
noncomputable def spec_l3Diff.U : SumTab := [(97, [], spec_l3Pairs.S), (96, [], spec_l2Join.S)]
noncomputable def spec_l3Diff.E : Env := mkEnv TY AR spec_l3Diff.U
noncomputable def spec_l3Diff.T : Tab := fun k => look k []
def spec_l3Diff.R : List (Nat × Ty) := [(9, .list (.pair (.int .i64) (.pair (.int .i64) (.one (.list .str)))))]
def spec_l3Diff.X : List ResultVar := [.tmp 4]
noncomputable def spec_l3Diff.f (a : List ByteArray) (b : List ByteArray) : Option ((List (Int × Int × List ByteArray))) := Fn spec_l3Diff.E spec_l3Diff.T spec_l3Diff.C spec_l3Diff.P spec_l3Diff.R spec_l3Diff.X (a, b)
theorem spec_l3Diff.f_eq (a : List ByteArray) (b : List ByteArray) : spec_l3Diff.f a b =
  ((spec_l3Pairs.f a b).bind fun y1 =>
  (spec_l2Join.f a b y1).bind fun y2 =>
  some y2) := by kernel_rfl
noncomputable def spec_l3Diff.S : Abs.Sum := ⟨spec_l3Diff.P, spec_l3Diff.R, fun _ => Fn spec_l3Diff.E spec_l3Diff.T spec_l3Diff.C spec_l3Diff.P spec_l3Diff.R spec_l3Diff.X⟩
theorem spec_l3Diff.meets : Meets Try.prog 79 spec_l3Diff.S := meets_tab (S := spec_l3Diff.U) tabOk_all (AllMeets.cons spec_l3Pairs.meets (AllMeets.cons spec_l2Join.meets AllMeets.nil)) (AllStill.cons (fun _ _ _ => rfl) (AllStill.cons (fun _ _ _ => rfl) AllStill.nil)) follows (by kernel_rfl : Try.prog.funcs[79]? = some Try.f79) (by kernel_rfl) (by kernel_rfl) (by kernel_rfl)
noncomputable def spec_l2Hunks.C : Code := Try.f78.body.getD .skip
def spec_l2Hunks.P : Par := (.cons (.val (.int .i64)) (.cons (.val (.list (.pair (.int .i64) (.pair (.int .i64) (.one (.list .str)))))) .nil))
noncomputable def spec_l2Hunks.U : SumTab := [(60, [], spec_l1Line.S), (31, [], spec_l1In.S)]
noncomputable def spec_l2Hunks.E : Env := mkEnv TY AR spec_l2Hunks.U
def spec_l2Hunks.D4 : CutD := ⟨[0, 1, 9, 10, 11], (.cons (.val (.int .i64)) (.cons (.val (.list (.pair (.int .i64) (.pair (.int .i64) (.one (.list .str)))))) (.cons (.val (.list (.pair (.int .i64) (.pair (.int .i64) (.one (.list .str)))))) (.cons (.val (.int .i64)) (.cons (.val (.int .i64)) .nil)))))⟩
def spec_l2Hunks.D13 : CutD := ⟨[0, 1, 6, 9, 10, 11], (.cons (.val (.int .i64)) (.cons (.val (.list (.pair (.int .i64) (.pair (.int .i64) (.one (.list .str)))))) (.cons (.box 0 (.pair (.int .i64) (.pair (.int .i64) (.one (.list .str))))) (.cons (.val (.list (.pair (.int .i64) (.pair (.int .i64) (.one (.list .str)))))) (.cons (.val (.int .i64)) (.cons (.val (.int .i64)) .nil))))))⟩
def spec_l2Hunks.D14 : CutD := ⟨[0, 1, 9, 10, 11, 77, 78, 79], (.cons (.val (.int .i64)) (.cons (.val (.list (.pair (.int .i64) (.pair (.int .i64) (.one (.list .str)))))) (.cons (.val (.list (.pair (.int .i64) (.pair (.int .i64) (.one (.list .str)))))) (.cons (.val (.int .i64)) (.cons (.val (.int .i64)) (.cons (.val (.list .str)) (.cons (.val (.int .i64)) (.cons (.val (.int .i64)) .nil))))))))⟩
noncomputable def spec_l2Hunks.T : Tab := fun k => look k [(4, spec_l2Hunks.D4), (13, spec_l2Hunks.D13), (14, spec_l2Hunks.D14)]
def spec_l2Hunks.R : List (Nat × Ty) := [(0, .bool)]
def spec_l2Hunks.X : List ResultVar := [.tmp 4]
noncomputable def spec_l2Hunks.K := fin spec_l2Hunks.E ⟨spec_l2Hunks.P, spec_l2Hunks.R, fun _ _ => none⟩ spec_l2Hunks.X spec_l2Hunks.P.len 0
noncomputable def spec_l2Hunks.l4 (many : Int) (h : List (Int × Int × List ByteArray)) (t9 : List (Int × Int × List ByteArray)) (t10 : Int) (t11 : Int) : Option (Bool) := fixP spec_l2Hunks.E spec_l2Hunks.T spec_l2Hunks.C spec_l2Hunks.K 4 spec_l2Hunks.D4 (many, h, t9, t10, t11)
noncomputable def spec_l2Hunks.l13 (many : Int) (h : List (Int × Int × List ByteArray)) (x : Int × Int × List ByteArray) (t9 : List (Int × Int × List ByteArray)) (t10 : Int) (t11 : Int) : Option (Bool) := fixP spec_l2Hunks.E spec_l2Hunks.T spec_l2Hunks.C spec_l2Hunks.K 13 spec_l2Hunks.D13 (many, h, x, t9, t10, t11)
noncomputable def spec_l2Hunks.l14 (many : Int) (h : List (Int × Int × List ByteArray)) (t9 : List (Int × Int × List ByteArray)) (t10 : Int) (t11 : Int) (t77 : List ByteArray) (t78 : Int) (t79 : Int) : Option (Bool) := fixP spec_l2Hunks.E spec_l2Hunks.T spec_l2Hunks.C spec_l2Hunks.K 14 spec_l2Hunks.D14 (many, h, t9, t10, t11, t77, t78, t79)
noncomputable def spec_l2Hunks.f (many : Int) (h : List (Int × Int × List ByteArray)) : Option (Bool) := Fn spec_l2Hunks.E spec_l2Hunks.T spec_l2Hunks.C spec_l2Hunks.P spec_l2Hunks.R spec_l2Hunks.X (many, h)
theorem spec_l2Hunks.l4_eq (many : Int) (h : List (Int × Int × List ByteArray)) (t9 : List (Int × Int × List ByteArray)) (t10 : Int) (t11 : Int) : spec_l2Hunks.l4 many h t9 t10 t11 =
  (bif (decide (t11 < t10)) then (bif ((decide (0 ≤ t11)) && (decide (t11 < (t9.length : Int)))) then (bif (decide ((t9.getD (t11).toNat (0, 0, ([] : List ByteArray))).1 < 0)) then (some false) else
    (bif (decide ((t9.getD (t11).toNat (0, 0, ([] : List ByteArray))).2.1 < 0)) then (some false) else
     (bif (decide ((t9.getD (t11).toNat (0, 0, ([] : List ByteArray))).2.1 > many)) then (some false) else
      (bif (decide ((t9.getD (t11).toNat (0, 0, ([] : List ByteArray))).1 > (w64 (many - (t9.getD (t11).toNat (0, 0, ([] : List ByteArray))).2.1)))) then (some false) else
       (bif (decide ((w64 ((t9.getD (t11).toNat (0, 0, ([] : List ByteArray))).2.1 + ((t9.getD (t11).toNat (0, 0, ([] : List ByteArray))).2.2.length : Int))) = 0)) then (some false) else
        (bif (decide (((t9.getD (t11).toNat (0, 0, ([] : List ByteArray))).2.2.length : Int) > 40)) then (some false) else
         (bif (decide (t11 > 0)) then (bif ((decide (0 ≤ (w64 (t11 - 1)))) && (decide ((w64 (t11 - 1)) < (h.length : Int)))) then (bif ((decide (0 ≤ (w64 (t11 - 1)))) && (decide ((w64 (t11 - 1)) < (h.length : Int)))) then (bif (decide ((t9.getD (t11).toNat (0, 0, ([] : List ByteArray))).1 ≤ (w64 ((h.getD ((w64 (t11 - 1))).toNat (0, 0, ([] : List ByteArray))).1 + (h.getD ((w64 (t11 - 1))).toNat (0, 0, ([] : List ByteArray))).2.1)))) then (some false) else
             (spec_l2Hunks.l13 many h (t9.getD (t11).toNat (0, 0, ([] : List ByteArray))) t9 t10 t11)) else none) else none) else
          (spec_l2Hunks.l13 many h (t9.getD (t11).toNat (0, 0, ([] : List ByteArray))) t9 t10 t11)))))))) else none) else
  (bif (decide ((h.length : Int) ≤ 20)) then ((spec_l1In.f many 0 40).bind fun y1 =>
    some y1) else (some false))) :=
  (fixP_eq spec_l2Hunks.E spec_l2Hunks.T spec_l2Hunks.C spec_l2Hunks.K 4 spec_l2Hunks.D4 (many, h, t9, t10, t11)).trans (by kernel_rfl)
theorem spec_l2Hunks.l13_eq (many : Int) (h : List (Int × Int × List ByteArray)) (x : Int × Int × List ByteArray) (t9 : List (Int × Int × List ByteArray)) (t10 : Int) (t11 : Int) : spec_l2Hunks.l13 many h x t9 t10 t11 =
  (spec_l2Hunks.l14 many h t9 t10 t11 x.2.2 (x.2.2.length : Int) 0) :=
  (fixP_eq spec_l2Hunks.E spec_l2Hunks.T spec_l2Hunks.C spec_l2Hunks.K 13 spec_l2Hunks.D13 (many, h, x, t9, t10, t11)).trans (by kernel_rfl)
theorem spec_l2Hunks.l14_eq (many : Int) (h : List (Int × Int × List ByteArray)) (t9 : List (Int × Int × List ByteArray)) (t10 : Int) (t11 : Int) (t77 : List ByteArray) (t78 : Int) (t79 : Int) : spec_l2Hunks.l14 many h t9 t10 t11 t77 t78 t79 =
  (bif (decide (t79 < t78)) then (bif ((decide (0 ≤ t79)) && (decide (t79 < (t77.length : Int)))) then ((spec_l1Line.f (t77.getD (t79).toNat em)).bind fun y1 =>
    bif (!y1) then (some false) else
    (spec_l2Hunks.l14 many h t9 t10 t11 t77 t78 (w64 (t79 + 1)))) else none) else
  (spec_l2Hunks.l4 many h t9 t10 (w64 (t11 + 1)))) :=
  (fixP_eq spec_l2Hunks.E spec_l2Hunks.T spec_l2Hunks.C spec_l2Hunks.K 14 spec_l2Hunks.D14 (many, h, t9, t10, t11, t77, t78, t79)).trans (by kernel_rfl)
theorem spec_l2Hunks.f_eq (many : Int) (h : List (Int × Int × List ByteArray)) : spec_l2Hunks.f many h =
  (spec_l2Hunks.l4 many h h (h.length : Int) 0) := by kernel_rfl
noncomputable def spec_l2Hunks.S : Abs.Sum := ⟨spec_l2Hunks.P, spec_l2Hunks.R, fun _ => Fn spec_l2Hunks.E spec_l2Hunks.T spec_l2Hunks.C spec_l2Hunks.P spec_l2Hunks.R spec_l2Hunks.X⟩
theorem spec_l2Hunks.meets : Meets Try.prog 78 spec_l2Hunks.S := meets_tab (S := spec_l2Hunks.U) tabOk_all (AllMeets.cons spec_l1Line.meets (AllMeets.cons spec_l1In.meets AllMeets.nil)) (AllStill.cons (fun _ _ _ => rfl) (AllStill.cons (fun _ _ _ => rfl) AllStill.nil)) follows (by kernel_rfl : Try.prog.funcs[78]? = some Try.f78) (by kernel_rfl) (by kernel_rfl) (by kernel_rfl)
noncomputable def spec_DiffHunks.C : Code := Try.f52.body.getD .skip
def spec_DiffHunks.P : Par := (.cons (.val (.list .str)) (.cons (.val (.list .str)) .nil))
noncomputable def spec_DiffHunks.U : SumTab := [(29, [], spec_l1Good.S), (79, [], spec_l3Diff.S), (78, [], spec_l2Hunks.S)]
noncomputable def spec_DiffHunks.E : Env := mkEnv TY AR spec_DiffHunks.U
def spec_DiffHunks.D7 : CutD := ⟨[0, 1], (.cons (.val (.list .str)) (.cons (.val (.list .str)) .nil))⟩
noncomputable def spec_DiffHunks.T : Tab := fun k => look k [(7, spec_DiffHunks.D7)]
def spec_DiffHunks.R : List (Nat × Ty) := [(9, .list (.pair (.int .i64) (.pair (.int .i64) (.one (.list .str))))), (0, .bool)]
def spec_DiffHunks.X : List ResultVar := [.tmp 4, .tmp 5]
noncomputable def spec_DiffHunks.K := fin spec_DiffHunks.E ⟨spec_DiffHunks.P, spec_DiffHunks.R, fun _ _ => none⟩ spec_DiffHunks.X spec_DiffHunks.P.len 0
noncomputable def spec_DiffHunks.l7 (a : List ByteArray) (b : List ByteArray) : Option ((List (Int × Int × List ByteArray)) × Bool) := fixP spec_DiffHunks.E spec_DiffHunks.T spec_DiffHunks.C spec_DiffHunks.K 7 spec_DiffHunks.D7 (a, b)
noncomputable def spec_DiffHunks.f (a : List ByteArray) (b : List ByteArray) : Option ((List (Int × Int × List ByteArray)) × Bool) := Fn spec_DiffHunks.E spec_DiffHunks.T spec_DiffHunks.C spec_DiffHunks.P spec_DiffHunks.R spec_DiffHunks.X (a, b)
theorem spec_DiffHunks.l7_eq (a : List ByteArray) (b : List ByteArray) : spec_DiffHunks.l7 a b =
  ((spec_l3Diff.f a b).bind fun y1 =>
  some (y1, true)) :=
  (fixP_eq spec_DiffHunks.E spec_DiffHunks.T spec_DiffHunks.C spec_DiffHunks.K 7 spec_DiffHunks.D7 (a, b)).trans (by kernel_rfl)
theorem spec_DiffHunks.f_eq (a : List ByteArray) (b : List ByteArray) : spec_DiffHunks.f a b =
  ((spec_l1Good.f a).bind fun y1 =>
  bif (!y1) then (some (([] : List (Int × Int × List ByteArray)), false)) else
  ((spec_l1Good.f b).bind fun y2 =>
   bif (!y2) then (some (([] : List (Int × Int × List ByteArray)), false)) else
   ((spec_l3Diff.f a b).bind fun y3 =>
    (spec_l2Hunks.f (a.length : Int) y3).bind fun y4 =>
    bif (!y4) then (some (([] : List (Int × Int × List ByteArray)), false)) else
    (spec_DiffHunks.l7 a b)))) := by kernel_rfl
noncomputable def spec_DiffHunks.S : Abs.Sum := ⟨spec_DiffHunks.P, spec_DiffHunks.R, fun _ => Fn spec_DiffHunks.E spec_DiffHunks.T spec_DiffHunks.C spec_DiffHunks.P spec_DiffHunks.R spec_DiffHunks.X⟩
theorem spec_DiffHunks.meets : Meets Try.prog 52 spec_DiffHunks.S := meets_tab (S := spec_DiffHunks.U) tabOk_all (AllMeets.cons spec_l1Good.meets (AllMeets.cons spec_l3Diff.meets (AllMeets.cons spec_l2Hunks.meets AllMeets.nil))) (AllStill.cons (fun _ _ _ => rfl) (AllStill.cons (fun _ _ _ => rfl) (AllStill.cons (fun _ _ _ => rfl) AllStill.nil))) follows (by kernel_rfl : Try.prog.funcs[52]? = some Try.f52) (by kernel_rfl) (by kernel_rfl) (by kernel_rfl)
noncomputable def spec_OrdersHunks.C : Code := Try.f20.body.getD .skip
def spec_OrdersHunks.P : Par := (.cons (.val (.list .str)) (.cons (.val (.list (.pair (.int .i64) (.pair (.int .i64) (.pair (.int .i64) (.one (.list .str))))))) .nil))
noncomputable def spec_OrdersHunks.U : SumTab := [(29, [], spec_l1Good.S), (49, [], spec_l1Whole.S), (50, [], spec_l9Good.S), (51, [], spec_l9Run.S), (52, [], spec_DiffHunks.S)]
noncomputable def spec_OrdersHunks.E : Env := mkEnv TY AR spec_OrdersHunks.U
def spec_OrdersHunks.D7 : CutD := ⟨[0, 1], (.cons (.val (.list .str)) (.cons (.val (.list (.pair (.int .i64) (.pair (.int .i64) (.pair (.int .i64) (.one (.list .str))))))) .nil))⟩
noncomputable def spec_OrdersHunks.T : Tab := fun k => look k [(7, spec_OrdersHunks.D7)]
def spec_OrdersHunks.R : List (Nat × Ty) := [(9, .list (.pair (.int .i64) (.pair (.int .i64) (.one (.list .str))))), (0, .int .i64), (0, .bool)]
def spec_OrdersHunks.X : List ResultVar := [.tmp 4, .tmp 5, .tmp 6]
noncomputable def spec_OrdersHunks.K := fin spec_OrdersHunks.E ⟨spec_OrdersHunks.P, spec_OrdersHunks.R, fun _ _ => none⟩ spec_OrdersHunks.X spec_OrdersHunks.P.len 0
noncomputable def spec_OrdersHunks.l7 (l : List ByteArray) (o : List (Int × Int × Int × List ByteArray)) : Option ((List (Int × Int × List ByteArray)) × Int × Bool) := fixP spec_OrdersHunks.E spec_OrdersHunks.T spec_OrdersHunks.C spec_OrdersHunks.K 7 spec_OrdersHunks.D7 (l, o)
noncomputable def spec_OrdersHunks.f (l : List ByteArray) (o : List (Int × Int × Int × List ByteArray)) : Option ((List (Int × Int × List ByteArray)) × Int × Bool) := Fn spec_OrdersHunks.E spec_OrdersHunks.T spec_OrdersHunks.C spec_OrdersHunks.P spec_OrdersHunks.R spec_OrdersHunks.X (l, o)
theorem spec_OrdersHunks.l7_eq (l : List ByteArray) (o : List (Int × Int × Int × List ByteArray)) : spec_OrdersHunks.l7 l o =
  ((spec_l9Run.f l o).bind fun y1 =>
  bif (decide (y1.2 > 0)) then (some (([] : List (Int × Int × List ByteArray)), y1.2, true)) else
  ((spec_DiffHunks.f l y1.1).bind fun y2 =>
   some (y2.1, 0, true))) :=
  (fixP_eq spec_OrdersHunks.E spec_OrdersHunks.T spec_OrdersHunks.C spec_OrdersHunks.K 7 spec_OrdersHunks.D7 (l, o)).trans (by kernel_rfl)
theorem spec_OrdersHunks.f_eq (l : List ByteArray) (o : List (Int × Int × Int × List ByteArray)) : spec_OrdersHunks.f l o =
  ((spec_l1Good.f l).bind fun y1 =>
  bif (!y1) then (some (([] : List (Int × Int × List ByteArray)), 0, false)) else
  ((spec_l1Whole.f l).bind fun y2 =>
   bif (!y2) then (some (([] : List (Int × Int × List ByteArray)), 0, false)) else
   ((spec_l9Good.f o).bind fun y3 =>
    bif (!y3) then (some (([] : List (Int × Int × List ByteArray)), 0, false)) else
    (spec_OrdersHunks.l7 l o)))) := by kernel_rfl
noncomputable def spec_OrdersHunks.S : Abs.Sum := ⟨spec_OrdersHunks.P, spec_OrdersHunks.R, fun _ => Fn spec_OrdersHunks.E spec_OrdersHunks.T spec_OrdersHunks.C spec_OrdersHunks.P spec_OrdersHunks.R spec_OrdersHunks.X⟩
theorem spec_OrdersHunks.meets : Meets Try.prog 20 spec_OrdersHunks.S := meets_tab (S := spec_OrdersHunks.U) tabOk_all (AllMeets.cons spec_l1Good.meets (AllMeets.cons spec_l1Whole.meets (AllMeets.cons spec_l9Good.meets (AllMeets.cons spec_l9Run.meets (AllMeets.cons spec_DiffHunks.meets AllMeets.nil))))) (AllStill.cons (fun _ _ _ => rfl) (AllStill.cons (fun _ _ _ => rfl) (AllStill.cons (fun _ _ _ => rfl) (AllStill.cons (fun _ _ _ => rfl) (AllStill.cons (fun _ _ _ => rfl) AllStill.nil))))) follows (by kernel_rfl : Try.prog.funcs[20]? = some Try.f20) (by kernel_rfl) (by kernel_rfl) (by kernel_rfl)
noncomputable def impl_goodOrder_1.C : Code := Try.f111.body.getD .skip
def impl_goodOrder_1.P : Par := (.cons (.val .str) .nil)
noncomputable def impl_goodOrder_1.U : SumTab := [(90, [], impl_isLine.S), (66, [], impl_isEnded.S)]
noncomputable def impl_goodOrder_1.E : Env := mkEnv TY AR impl_goodOrder_1.U
noncomputable def impl_goodOrder_1.T : Tab := fun k => look k []
def impl_goodOrder_1.R : List (Nat × Ty) := [(0, .bool)]
def impl_goodOrder_1.X : List ResultVar := [.tmp 2]
noncomputable def impl_goodOrder_1.f (line : ByteArray) : Option (Bool) := Fn impl_goodOrder_1.E impl_goodOrder_1.T impl_goodOrder_1.C impl_goodOrder_1.P impl_goodOrder_1.R impl_goodOrder_1.X line
theorem impl_goodOrder_1.f_eq (line : ByteArray) : impl_goodOrder_1.f line =
  ((impl_isLine.f line).bind fun y1 =>
  bif (!y1) then (some true) else
  ((impl_isEnded.f line).bind fun y2 =>
   bif (!y2) then (some true) else (some (line.toList == (⟨#[46, 10]⟩ : ByteArray).toList)))) := by kernel_rfl
noncomputable def impl_goodOrder_1.S : Abs.Sum := ⟨impl_goodOrder_1.P, impl_goodOrder_1.R, fun _ => Fn impl_goodOrder_1.E impl_goodOrder_1.T impl_goodOrder_1.C impl_goodOrder_1.P impl_goodOrder_1.R impl_goodOrder_1.X⟩
theorem impl_goodOrder_1.meets : Meets Try.prog 111 impl_goodOrder_1.S := meets_tab (S := impl_goodOrder_1.U) tabOk_all (AllMeets.cons impl_isLine.meets (AllMeets.cons impl_isEnded.meets AllMeets.nil)) (AllStill.cons (fun _ _ _ => rfl) (AllStill.cons (fun _ _ _ => rfl) AllStill.nil)) follows (by kernel_rfl : Try.prog.funcs[111]? = some Try.f111) (by kernel_rfl) (by kernel_rfl) (by kernel_rfl)
noncomputable def slices_IndexFunc_Lstring_string__impl_goodOrder_1.C : Code := Try.f105.body.getD .skip
def slices_IndexFunc_Lstring_string__impl_goodOrder_1.P : Par := (.cons (.val (.list .str)) (.cons (.fn 111 .nil) .nil))
noncomputable def slices_IndexFunc_Lstring_string__impl_goodOrder_1.U : SumTab := [(111, [], impl_goodOrder_1.S)]
noncomputable def slices_IndexFunc_Lstring_string__impl_goodOrder_1.E : Env := mkEnv TY AR slices_IndexFunc_Lstring_string__impl_goodOrder_1.U
def slices_IndexFunc_Lstring_string__impl_goodOrder_1.D4 : CutD := ⟨[0, 1, 7, 8], (.cons (.val (.list .str)) (.cons (.fn 111 .nil) (.cons (.val (.int .i64)) (.cons (.val (.int .i64)) .nil))))⟩
noncomputable def slices_IndexFunc_Lstring_string__impl_goodOrder_1.T : Tab := fun k => look k [(4, slices_IndexFunc_Lstring_string__impl_goodOrder_1.D4)]
def slices_IndexFunc_Lstring_string__impl_goodOrder_1.R : List (Nat × Ty) := [(0, .int .i64)]
def slices_IndexFunc_Lstring_string__impl_goodOrder_1.X : List ResultVar := [.tmp 4]
noncomputable def slices_IndexFunc_Lstring_string__impl_goodOrder_1.K := fin slices_IndexFunc_Lstring_string__impl_goodOrder_1.E ⟨slices_IndexFunc_Lstring_string__impl_goodOrder_1.P, slices_IndexFunc_Lstring_string__impl_goodOrder_1.R, fun _ _ => none⟩ slices_IndexFunc_Lstring_string__impl_goodOrder_1.X slices_IndexFunc_Lstring_string__impl_goodOrder_1.P.len 0
noncomputable def slices_IndexFunc_Lstring_string__impl_goodOrder_1.l4 (s : List ByteArray) (t7 : Int) (t8 : Int) : Option (Int) := fixP slices_IndexFunc_Lstring_string__impl_goodOrder_1.E slices_IndexFunc_Lstring_string__impl_goodOrder_1.T slices_IndexFunc_Lstring_string__impl_goodOrder_1.C slices_IndexFunc_Lstring_string__impl_goodOrder_1.K 4 slices_IndexFunc_Lstring_string__impl_goodOrder_1.D4 (s, t7, t8)
noncomputable def slices_IndexFunc_Lstring_string__impl_goodOrder_1.f (s : List ByteArray) : Option (Int) := Fn slices_IndexFunc_Lstring_string__impl_goodOrder_1.E slices_IndexFunc_Lstring_string__impl_goodOrder_1.T slices_IndexFunc_Lstring_string__impl_goodOrder_1.C slices_IndexFunc_Lstring_string__impl_goodOrder_1.P slices_IndexFunc_Lstring_string__impl_goodOrder_1.R slices_IndexFunc_Lstring_string__impl_goodOrder_1.X s
theorem slices_IndexFunc_Lstring_string__impl_goodOrder_1.l4_eq (s : List ByteArray) (t7 : Int) (t8 : Int) : slices_IndexFunc_Lstring_string__impl_goodOrder_1.l4 s t7 t8 =
  (bif (decide (t8 < t7)) then (bif ((decide (0 ≤ t8)) && (decide (t8 < (s.length : Int)))) then ((impl_goodOrder_1.f (s.getD (t8).toNat em)).bind fun y1 =>
    bif y1 then (some t8) else
    (slices_IndexFunc_Lstring_string__impl_goodOrder_1.l4 s t7 (w64 (t8 + 1)))) else none) else (some (-1))) :=
  (fixP_eq slices_IndexFunc_Lstring_string__impl_goodOrder_1.E slices_IndexFunc_Lstring_string__impl_goodOrder_1.T slices_IndexFunc_Lstring_string__impl_goodOrder_1.C slices_IndexFunc_Lstring_string__impl_goodOrder_1.K 4 slices_IndexFunc_Lstring_string__impl_goodOrder_1.D4 (s, t7, t8)).trans (by kernel_rfl)
theorem slices_IndexFunc_Lstring_string__impl_goodOrder_1.f_eq (s : List ByteArray) : slices_IndexFunc_Lstring_string__impl_goodOrder_1.f s =
  (slices_IndexFunc_Lstring_string__impl_goodOrder_1.l4 s (s.length : Int) 0) := by kernel_rfl
noncomputable def slices_IndexFunc_Lstring_string__impl_goodOrder_1.S : Abs.Sum := ⟨slices_IndexFunc_Lstring_string__impl_goodOrder_1.P, slices_IndexFunc_Lstring_string__impl_goodOrder_1.R, fun _ => Fn slices_IndexFunc_Lstring_string__impl_goodOrder_1.E slices_IndexFunc_Lstring_string__impl_goodOrder_1.T slices_IndexFunc_Lstring_string__impl_goodOrder_1.C slices_IndexFunc_Lstring_string__impl_goodOrder_1.P slices_IndexFunc_Lstring_string__impl_goodOrder_1.R slices_IndexFunc_Lstring_string__impl_goodOrder_1.X⟩
theorem slices_IndexFunc_Lstring_string__impl_goodOrder_1.meets : Meets Try.prog 105 slices_IndexFunc_Lstring_string__impl_goodOrder_1.S := meets_tab (S := slices_IndexFunc_Lstring_string__impl_goodOrder_1.U) tabOk_all (AllMeets.cons impl_goodOrder_1.meets AllMeets.nil) (AllStill.cons (fun _ _ _ => rfl) AllStill.nil) follows (by kernel_rfl : Try.prog.funcs[105]? = some Try.f105) (by kernel_rfl) (by kernel_rfl) (by kernel_rfl)
noncomputable def slices_ContainsFunc_Lstring_string__impl_goodOrder_1.C : Code := Try.f88.body.getD .skip
def slices_ContainsFunc_Lstring_string__impl_goodOrder_1.P : Par := (.cons (.val (.list .str)) (.cons (.fn 111 .nil) .nil))
noncomputable def slices_ContainsFunc_Lstring_string__impl_goodOrder_1.U : SumTab := [(105, [111], slices_IndexFunc_Lstring_string__impl_goodOrder_1.S)]
noncomputable def slices_ContainsFunc_Lstring_string__impl_goodOrder_1.E : Env := mkEnv TY AR slices_ContainsFunc_Lstring_string__impl_goodOrder_1.U
noncomputable def slices_ContainsFunc_Lstring_string__impl_goodOrder_1.T : Tab := fun k => look k []
def slices_ContainsFunc_Lstring_string__impl_goodOrder_1.R : List (Nat × Ty) := [(0, .bool)]
def slices_ContainsFunc_Lstring_string__impl_goodOrder_1.X : List ResultVar := [.tmp 4]
noncomputable def slices_ContainsFunc_Lstring_string__impl_goodOrder_1.f (s : List ByteArray) : Option (Bool) := Fn slices_ContainsFunc_Lstring_string__impl_goodOrder_1.E slices_ContainsFunc_Lstring_string__impl_goodOrder_1.T slices_ContainsFunc_Lstring_string__impl_goodOrder_1.C slices_ContainsFunc_Lstring_string__impl_goodOrder_1.P slices_ContainsFunc_Lstring_string__impl_goodOrder_1.R slices_ContainsFunc_Lstring_string__impl_goodOrder_1.X s
theorem slices_ContainsFunc_Lstring_string__impl_goodOrder_1.f_eq (s : List ByteArray) : slices_ContainsFunc_Lstring_string__impl_goodOrder_1.f s =
  ((slices_IndexFunc_Lstring_string__impl_goodOrder_1.f s).bind fun y1 =>
  some (decide (y1 ≥ 0))) := by kernel_rfl
noncomputable def slices_ContainsFunc_Lstring_string__impl_goodOrder_1.S : Abs.Sum := ⟨slices_ContainsFunc_Lstring_string__impl_goodOrder_1.P, slices_ContainsFunc_Lstring_string__impl_goodOrder_1.R, fun _ => Fn slices_ContainsFunc_Lstring_string__impl_goodOrder_1.E slices_ContainsFunc_Lstring_string__impl_goodOrder_1.T slices_ContainsFunc_Lstring_string__impl_goodOrder_1.C slices_ContainsFunc_Lstring_string__impl_goodOrder_1.P slices_ContainsFunc_Lstring_string__impl_goodOrder_1.R slices_ContainsFunc_Lstring_string__impl_goodOrder_1.X⟩
theorem slices_ContainsFunc_Lstring_string__impl_goodOrder_1.meets : Meets Try.prog 88 slices_ContainsFunc_Lstring_string__impl_goodOrder_1.S := meets_tab (S := slices_ContainsFunc_Lstring_string__impl_goodOrder_1.U) tabOk_all (AllMeets.cons slices_IndexFunc_Lstring_string__impl_goodOrder_1.meets AllMeets.nil) (AllStill.cons (fun _ _ _ => rfl) AllStill.nil) follows (by kernel_rfl : Try.prog.funcs[88]? = some Try.f88) (by kernel_rfl) (by kernel_rfl) (by kernel_rfl)
noncomputable def impl_goodOrder.C : Code := Try.f100.body.getD .skip
def impl_goodOrder.P : Par := (.cons (.val (.pair (.int .i64) (.pair (.int .i64) (.pair (.int .i64) (.one (.list .str)))))) .nil)
noncomputable def impl_goodOrder.U : SumTab := [(68, [], impl_in.S), (88, [111], slices_ContainsFunc_Lstring_string__impl_goodOrder_1.S)]
noncomputable def impl_goodOrder.E : Env := mkEnv TY AR impl_goodOrder.U
def impl_goodOrder.D7 : CutD := ⟨[1], (.cons (.box 0 (.pair (.int .i64) (.pair (.int .i64) (.pair (.int .i64) (.one (.list .str)))))) .nil)⟩
def impl_goodOrder.D9 : CutD := ⟨[1, 3], (.cons (.box 0 (.pair (.int .i64) (.pair (.int .i64) (.pair (.int .i64) (.one (.list .str)))))) (.cons (.val .bool) .nil))⟩
noncomputable def impl_goodOrder.T : Tab := fun k => look k [(7, impl_goodOrder.D7), (9, impl_goodOrder.D9)]
def impl_goodOrder.R : List (Nat × Ty) := [(0, .bool)]
def impl_goodOrder.X : List ResultVar := [.tmp 2]
noncomputable def impl_goodOrder.K := fin impl_goodOrder.E ⟨impl_goodOrder.P, impl_goodOrder.R, fun _ _ => none⟩ impl_goodOrder.X impl_goodOrder.P.len 0
noncomputable def impl_goodOrder.l7 (o : Int × Int × Int × List ByteArray) : Option (Bool) := fixP impl_goodOrder.E impl_goodOrder.T impl_goodOrder.C impl_goodOrder.K 7 impl_goodOrder.D7 o
noncomputable def impl_goodOrder.l9 (o : Int × Int × Int × List ByteArray) (fresh : Bool) : Option (Bool) := fixP impl_goodOrder.E impl_goodOrder.T impl_goodOrder.C impl_goodOrder.K 9 impl_goodOrder.D9 (o, fresh)
noncomputable def impl_goodOrder.f (o : Int × Int × Int × List ByteArray) : Option (Bool) := Fn impl_goodOrder.E impl_goodOrder.T impl_goodOrder.C impl_goodOrder.P impl_goodOrder.R impl_goodOrder.X o
theorem impl_goodOrder.l7_eq (o : Int × Int × Int × List ByteArray) : impl_goodOrder.l7 o =
  ((impl_in.f (o.2.2.2.length : Int) 1 40).bind fun y1 =>
  bif y1 then ((slices_ContainsFunc_Lstring_string__impl_goodOrder_1.f o.2.2.2).bind fun y2 =>
   impl_goodOrder.l9 o (!y2)) else
  (impl_goodOrder.l9 o false)) :=
  (fixP_eq impl_goodOrder.E impl_goodOrder.T impl_goodOrder.C impl_goodOrder.K 7 impl_goodOrder.D7 o).trans (by kernel_rfl)
theorem impl_goodOrder.l9_eq (o : Int × Int × Int × List ByteArray) (fresh : Bool) : impl_goodOrder.l9 o fresh =
  (bif (decide (o.1 = 1)) then (bif fresh then (some (decide (o.2.2.1 = o.2.1))) else (some false)) else
  (bif (decide (o.1 = 2)) then (bif fresh then (bif (decide (o.2.2.1 = o.2.1)) then (some (decide (o.2.1 ≥ 1))) else (some false)) else (some false)) else
   (bif (decide (o.1 = 3)) then (bif fresh then (some (decide (o.2.1 ≥ 1))) else (some false)) else
    (bif (decide (o.1 = 4)) then (bif (decide ((o.2.2.2.length : Int) = 0)) then (some (decide (o.2.1 ≥ 1))) else (some false)) else
     (bif (decide (o.1 = 5)) then (bif (decide ((o.2.2.2.length : Int) = 0)) then (bif (decide (o.2.1 ≥ 1)) then (some (decide (o.2.2.1 = o.2.1))) else (some false)) else (some false)) else (some false)))))) :=
  (fixP_eq impl_goodOrder.E impl_goodOrder.T impl_goodOrder.C impl_goodOrder.K 9 impl_goodOrder.D9 (o, fresh)).trans (by kernel_rfl)
theorem impl_goodOrder.f_eq (o : Int × Int × Int × List ByteArray) : impl_goodOrder.f o =
  ((impl_in.f o.2.1 0 1000).bind fun y1 =>
  bif (!y1) then (some false) else
  ((impl_in.f o.2.2.1 o.2.1 1000).bind fun y2 =>
   bif (!y2) then (some false) else
   (impl_goodOrder.l7 o))) := by kernel_rfl
noncomputable def impl_goodOrder.S : Abs.Sum := ⟨impl_goodOrder.P, impl_goodOrder.R, fun _ => Fn impl_goodOrder.E impl_goodOrder.T impl_goodOrder.C impl_goodOrder.P impl_goodOrder.R impl_goodOrder.X⟩
theorem impl_goodOrder.meets : Meets Try.prog 100 impl_goodOrder.S := meets_tab (S := impl_goodOrder.U) tabOk_all (AllMeets.cons impl_in.meets (AllMeets.cons slices_ContainsFunc_Lstring_string__impl_goodOrder_1.meets AllMeets.nil)) (AllStill.cons (fun _ _ _ => rfl) (AllStill.cons (fun _ _ _ => rfl) AllStill.nil)) follows (by kernel_rfl : Try.prog.funcs[100]? = some Try.f100) (by kernel_rfl) (by kernel_rfl) (by kernel_rfl)
noncomputable def impl_goodOrders_1.C : Code := Try.f99.body.getD .skip
def impl_goodOrders_1.P : Par := (.cons (.val (.pair (.int .i64) (.pair (.int .i64) (.pair (.int .i64) (.one (.list .str)))))) .nil)
noncomputable def impl_goodOrders_1.U : SumTab := [(100, [], impl_goodOrder.S)]
noncomputable def impl_goodOrders_1.E : Env := mkEnv TY AR impl_goodOrders_1.U
noncomputable def impl_goodOrders_1.T : Tab := fun k => look k []
def impl_goodOrders_1.R : List (Nat × Ty) := [(0, .bool)]
def impl_goodOrders_1.X : List ResultVar := [.tmp 2]
noncomputable def impl_goodOrders_1.f (x : Int × Int × Int × List ByteArray) : Option (Bool) := Fn impl_goodOrders_1.E impl_goodOrders_1.T impl_goodOrders_1.C impl_goodOrders_1.P impl_goodOrders_1.R impl_goodOrders_1.X x
theorem impl_goodOrders_1.f_eq (x : Int × Int × Int × List ByteArray) : impl_goodOrders_1.f x =
  ((impl_goodOrder.f x).bind fun y1 =>
  some (!y1)) := by kernel_rfl
noncomputable def impl_goodOrders_1.S : Abs.Sum := ⟨impl_goodOrders_1.P, impl_goodOrders_1.R, fun _ => Fn impl_goodOrders_1.E impl_goodOrders_1.T impl_goodOrders_1.C impl_goodOrders_1.P impl_goodOrders_1.R impl_goodOrders_1.X⟩
theorem impl_goodOrders_1.meets : Meets Try.prog 99 impl_goodOrders_1.S := meets_tab (S := impl_goodOrders_1.U) tabOk_all (AllMeets.cons impl_goodOrder.meets AllMeets.nil) (AllStill.cons (fun _ _ _ => rfl) AllStill.nil) follows (by kernel_rfl : Try.prog.funcs[99]? = some Try.f99) (by kernel_rfl) (by kernel_rfl) (by kernel_rfl)
noncomputable def slices_IndexFunc_Limpl_Order_impl_Order__impl_goodOrders_1.C : Code := Try.f110.body.getD .skip
def slices_IndexFunc_Limpl_Order_impl_Order__impl_goodOrders_1.P : Par := (.cons (.val (.list (.pair (.int .i64) (.pair (.int .i64) (.pair (.int .i64) (.one (.list .str))))))) (.cons (.fn 99 .nil) .nil))
noncomputable def slices_IndexFunc_Limpl_Order_impl_Order__impl_goodOrders_1.U : SumTab := [(99, [], impl_goodOrders_1.S)]
noncomputable def slices_IndexFunc_Limpl_Order_impl_Order__impl_goodOrders_1.E : Env := mkEnv TY AR slices_IndexFunc_Limpl_Order_impl_Order__impl_goodOrders_1.U
def slices_IndexFunc_Limpl_Order_impl_Order__impl_goodOrders_1.D4 : CutD := ⟨[0, 1, 7, 8], (.cons (.val (.list (.pair (.int .i64) (.pair (.int .i64) (.pair (.int .i64) (.one (.list .str))))))) (.cons (.fn 99 .nil) (.cons (.val (.int .i64)) (.cons (.val (.int .i64)) .nil))))⟩
noncomputable def slices_IndexFunc_Limpl_Order_impl_Order__impl_goodOrders_1.T : Tab := fun k => look k [(4, slices_IndexFunc_Limpl_Order_impl_Order__impl_goodOrders_1.D4)]
def slices_IndexFunc_Limpl_Order_impl_Order__impl_goodOrders_1.R : List (Nat × Ty) := [(0, .int .i64)]
def slices_IndexFunc_Limpl_Order_impl_Order__impl_goodOrders_1.X : List ResultVar := [.tmp 4]
noncomputable def slices_IndexFunc_Limpl_Order_impl_Order__impl_goodOrders_1.K := fin slices_IndexFunc_Limpl_Order_impl_Order__impl_goodOrders_1.E ⟨slices_IndexFunc_Limpl_Order_impl_Order__impl_goodOrders_1.P, slices_IndexFunc_Limpl_Order_impl_Order__impl_goodOrders_1.R, fun _ _ => none⟩ slices_IndexFunc_Limpl_Order_impl_Order__impl_goodOrders_1.X slices_IndexFunc_Limpl_Order_impl_Order__impl_goodOrders_1.P.len 0
noncomputable def slices_IndexFunc_Limpl_Order_impl_Order__impl_goodOrders_1.l4 (s : List (Int × Int × Int × List ByteArray)) (t7 : Int) (t8 : Int) : Option (Int) := fixP slices_IndexFunc_Limpl_Order_impl_Order__impl_goodOrders_1.E slices_IndexFunc_Limpl_Order_impl_Order__impl_goodOrders_1.T slices_IndexFunc_Limpl_Order_impl_Order__impl_goodOrders_1.C slices_IndexFunc_Limpl_Order_impl_Order__impl_goodOrders_1.K 4 slices_IndexFunc_Limpl_Order_impl_Order__impl_goodOrders_1.D4 (s, t7, t8)
noncomputable def slices_IndexFunc_Limpl_Order_impl_Order__impl_goodOrders_1.f (s : List (Int × Int × Int × List ByteArray)) : Option (Int) := Fn slices_IndexFunc_Limpl_Order_impl_Order__impl_goodOrders_1.E slices_IndexFunc_Limpl_Order_impl_Order__impl_goodOrders_1.T slices_IndexFunc_Limpl_Order_impl_Order__impl_goodOrders_1.C slices_IndexFunc_Limpl_Order_impl_Order__impl_goodOrders_1.P slices_IndexFunc_Limpl_Order_impl_Order__impl_goodOrders_1.R slices_IndexFunc_Limpl_Order_impl_Order__impl_goodOrders_1.X s
theorem slices_IndexFunc_Limpl_Order_impl_Order__impl_goodOrders_1.l4_eq (s : List (Int × Int × Int × List ByteArray)) (t7 : Int) (t8 : Int) : slices_IndexFunc_Limpl_Order_impl_Order__impl_goodOrders_1.l4 s t7 t8 =
  (bif (decide (t8 < t7)) then (bif ((decide (0 ≤ t8)) && (decide (t8 < (s.length : Int)))) then ((impl_goodOrders_1.f (s.getD (t8).toNat (0, 0, 0, ([] : List ByteArray)))).bind fun y1 =>
    bif y1 then (some t8) else
    (slices_IndexFunc_Limpl_Order_impl_Order__impl_goodOrders_1.l4 s t7 (w64 (t8 + 1)))) else none) else (some (-1))) :=
  (fixP_eq slices_IndexFunc_Limpl_Order_impl_Order__impl_goodOrders_1.E slices_IndexFunc_Limpl_Order_impl_Order__impl_goodOrders_1.T slices_IndexFunc_Limpl_Order_impl_Order__impl_goodOrders_1.C slices_IndexFunc_Limpl_Order_impl_Order__impl_goodOrders_1.K 4 slices_IndexFunc_Limpl_Order_impl_Order__impl_goodOrders_1.D4 (s, t7, t8)).trans (by kernel_rfl)
theorem slices_IndexFunc_Limpl_Order_impl_Order__impl_goodOrders_1.f_eq (s : List (Int × Int × Int × List ByteArray)) : slices_IndexFunc_Limpl_Order_impl_Order__impl_goodOrders_1.f s =
  (slices_IndexFunc_Limpl_Order_impl_Order__impl_goodOrders_1.l4 s (s.length : Int) 0) := by kernel_rfl
noncomputable def slices_IndexFunc_Limpl_Order_impl_Order__impl_goodOrders_1.S : Abs.Sum := ⟨slices_IndexFunc_Limpl_Order_impl_Order__impl_goodOrders_1.P, slices_IndexFunc_Limpl_Order_impl_Order__impl_goodOrders_1.R, fun _ => Fn slices_IndexFunc_Limpl_Order_impl_Order__impl_goodOrders_1.E slices_IndexFunc_Limpl_Order_impl_Order__impl_goodOrders_1.T slices_IndexFunc_Limpl_Order_impl_Order__impl_goodOrders_1.C slices_IndexFunc_Limpl_Order_impl_Order__impl_goodOrders_1.P slices_IndexFunc_Limpl_Order_impl_Order__impl_goodOrders_1.R slices_IndexFunc_Limpl_Order_impl_Order__impl_goodOrders_1.X⟩
theorem slices_IndexFunc_Limpl_Order_impl_Order__impl_goodOrders_1.meets : Meets Try.prog 110 slices_IndexFunc_Limpl_Order_impl_Order__impl_goodOrders_1.S := meets_tab (S := slices_IndexFunc_Limpl_Order_impl_Order__impl_goodOrders_1.U) tabOk_all (AllMeets.cons impl_goodOrders_1.meets AllMeets.nil) (AllStill.cons (fun _ _ _ => rfl) AllStill.nil) follows (by kernel_rfl : Try.prog.funcs[110]? = some Try.f110) (by kernel_rfl) (by kernel_rfl) (by kernel_rfl)
noncomputable def slices_ContainsFunc_Limpl_Order_impl_Order__impl_goodOrders_1.C : Code := Try.f98.body.getD .skip
def slices_ContainsFunc_Limpl_Order_impl_Order__impl_goodOrders_1.P : Par := (.cons (.val (.list (.pair (.int .i64) (.pair (.int .i64) (.pair (.int .i64) (.one (.list .str))))))) (.cons (.fn 99 .nil) .nil))
noncomputable def slices_ContainsFunc_Limpl_Order_impl_Order__impl_goodOrders_1.U : SumTab := [(110, [99], slices_IndexFunc_Limpl_Order_impl_Order__impl_goodOrders_1.S)]
noncomputable def slices_ContainsFunc_Limpl_Order_impl_Order__impl_goodOrders_1.E : Env := mkEnv TY AR slices_ContainsFunc_Limpl_Order_impl_Order__impl_goodOrders_1.U
noncomputable def slices_ContainsFunc_Limpl_Order_impl_Order__impl_goodOrders_1.T : Tab := fun k => look k []
def slices_ContainsFunc_Limpl_Order_impl_Order__impl_goodOrders_1.R : List (Nat × Ty) := [(0, .bool)]
def slices_ContainsFunc_Limpl_Order_impl_Order__impl_goodOrders_1.X : List ResultVar := [.tmp 4]
noncomputable def slices_ContainsFunc_Limpl_Order_impl_Order__impl_goodOrders_1.f (s : List (Int × Int × Int × List ByteArray)) : Option (Bool) := Fn slices_ContainsFunc_Limpl_Order_impl_Order__impl_goodOrders_1.E slices_ContainsFunc_Limpl_Order_impl_Order__impl_goodOrders_1.T slices_ContainsFunc_Limpl_Order_impl_Order__impl_goodOrders_1.C slices_ContainsFunc_Limpl_Order_impl_Order__impl_goodOrders_1.P slices_ContainsFunc_Limpl_Order_impl_Order__impl_goodOrders_1.R slices_ContainsFunc_Limpl_Order_impl_Order__impl_goodOrders_1.X s
theorem slices_ContainsFunc_Limpl_Order_impl_Order__impl_goodOrders_1.f_eq (s : List (Int × Int × Int × List ByteArray)) : slices_ContainsFunc_Limpl_Order_impl_Order__impl_goodOrders_1.f s =
  ((slices_IndexFunc_Limpl_Order_impl_Order__impl_goodOrders_1.f s).bind fun y1 =>
  some (decide (y1 ≥ 0))) := by kernel_rfl
noncomputable def slices_ContainsFunc_Limpl_Order_impl_Order__impl_goodOrders_1.S : Abs.Sum := ⟨slices_ContainsFunc_Limpl_Order_impl_Order__impl_goodOrders_1.P, slices_ContainsFunc_Limpl_Order_impl_Order__impl_goodOrders_1.R, fun _ => Fn slices_ContainsFunc_Limpl_Order_impl_Order__impl_goodOrders_1.E slices_ContainsFunc_Limpl_Order_impl_Order__impl_goodOrders_1.T slices_ContainsFunc_Limpl_Order_impl_Order__impl_goodOrders_1.C slices_ContainsFunc_Limpl_Order_impl_Order__impl_goodOrders_1.P slices_ContainsFunc_Limpl_Order_impl_Order__impl_goodOrders_1.R slices_ContainsFunc_Limpl_Order_impl_Order__impl_goodOrders_1.X⟩
theorem slices_ContainsFunc_Limpl_Order_impl_Order__impl_goodOrders_1.meets : Meets Try.prog 98 slices_ContainsFunc_Limpl_Order_impl_Order__impl_goodOrders_1.S := meets_tab (S := slices_ContainsFunc_Limpl_Order_impl_Order__impl_goodOrders_1.U) tabOk_all (AllMeets.cons slices_IndexFunc_Limpl_Order_impl_Order__impl_goodOrders_1.meets AllMeets.nil) (AllStill.cons (fun _ _ _ => rfl) AllStill.nil) follows (by kernel_rfl : Try.prog.funcs[98]? = some Try.f98) (by kernel_rfl) (by kernel_rfl) (by kernel_rfl)
noncomputable def impl_goodOrders.C : Code := Try.f80.body.getD .skip
def impl_goodOrders.P : Par := (.cons (.val (.list (.pair (.int .i64) (.pair (.int .i64) (.pair (.int .i64) (.one (.list .str))))))) .nil)
noncomputable def impl_goodOrders.U : SumTab := [(98, [99], slices_ContainsFunc_Limpl_Order_impl_Order__impl_goodOrders_1.S)]
noncomputable def impl_goodOrders.E : Env := mkEnv TY AR impl_goodOrders.U
noncomputable def impl_goodOrders.T : Tab := fun k => look k []
def impl_goodOrders.R : List (Nat × Ty) := [(0, .bool)]
def impl_goodOrders.X : List ResultVar := [.tmp 2]
noncomputable def impl_goodOrders.f (o : List (Int × Int × Int × List ByteArray)) : Option (Bool) := Fn impl_goodOrders.E impl_goodOrders.T impl_goodOrders.C impl_goodOrders.P impl_goodOrders.R impl_goodOrders.X o
theorem impl_goodOrders.f_eq (o : List (Int × Int × Int × List ByteArray)) : impl_goodOrders.f o =
  (bif (decide ((o.length : Int) ≤ 60)) then ((slices_ContainsFunc_Limpl_Order_impl_Order__impl_goodOrders_1.f o).bind fun y1 =>
   some (!y1)) else (some false)) := by kernel_rfl
noncomputable def impl_goodOrders.S : Abs.Sum := ⟨impl_goodOrders.P, impl_goodOrders.R, fun _ => Fn impl_goodOrders.E impl_goodOrders.T impl_goodOrders.C impl_goodOrders.P impl_goodOrders.R impl_goodOrders.X⟩
theorem impl_goodOrders.meets : Meets Try.prog 80 impl_goodOrders.S := meets_tab (S := impl_goodOrders.U) tabOk_all (AllMeets.cons slices_ContainsFunc_Limpl_Order_impl_Order__impl_goodOrders_1.meets AllMeets.nil) (AllStill.cons (fun _ _ _ => rfl) AllStill.nil) follows (by kernel_rfl : Try.prog.funcs[80]? = some Try.f80) (by kernel_rfl) (by kernel_rfl) (by kernel_rfl)
noncomputable def impl_isWhole.C : Code := Try.f55.body.getD .skip
def impl_isWhole.P : Par := (.cons (.val (.list .str)) .nil)
noncomputable def impl_isWhole.U : SumTab := [(66, [], impl_isEnded.S)]
noncomputable def impl_isWhole.E : Env := mkEnv TY AR impl_isWhole.U
noncomputable def impl_isWhole.T : Tab := fun k => look k []
def impl_isWhole.R : List (Nat × Ty) := [(0, .bool)]
def impl_isWhole.X : List ResultVar := [.tmp 2]
noncomputable def impl_isWhole.f (l : List ByteArray) : Option (Bool) := Fn impl_isWhole.E impl_isWhole.T impl_isWhole.C impl_isWhole.P impl_isWhole.R impl_isWhole.X l
theorem impl_isWhole.f_eq (l : List ByteArray) : impl_isWhole.f l =
  (bif (decide ((l.length : Int) = 0)) then (some true) else
  (bif ((decide (0 ≤ (w64 ((l.length : Int) - 1)))) && (decide ((w64 ((l.length : Int) - 1)) < (l.length : Int)))) then ((impl_isEnded.f (l.getD ((w64 ((l.length : Int) - 1))).toNat em)).bind fun y1 =>
    some y1) else none)) := by kernel_rfl
noncomputable def impl_isWhole.S : Abs.Sum := ⟨impl_isWhole.P, impl_isWhole.R, fun _ => Fn impl_isWhole.E impl_isWhole.T impl_isWhole.C impl_isWhole.P impl_isWhole.R impl_isWhole.X⟩
theorem impl_isWhole.meets : Meets Try.prog 55 impl_isWhole.S := meets_tab (S := impl_isWhole.U) tabOk_all (AllMeets.cons impl_isEnded.meets AllMeets.nil) (AllStill.cons (fun _ _ _ => rfl) AllStill.nil) follows (by kernel_rfl : Try.prog.funcs[55]? = some Try.f55) (by kernel_rfl) (by kernel_rfl) (by kernel_rfl)
noncomputable def internal_stringslite_HasPrefix.C : Code := Try.f112.body.getD .skip
def internal_stringslite_HasPrefix.P : Par := (.cons (.val .str) (.cons (.val .str) .nil))
noncomputable def internal_stringslite_HasPrefix.U : SumTab := []
noncomputable def internal_stringslite_HasPrefix.E : Env := mkEnv TY AR internal_stringslite_HasPrefix.U
noncomputable def internal_stringslite_HasPrefix.T : Tab := fun k => look k []
def internal_stringslite_HasPrefix.R : List (Nat × Ty) := [(0, .bool)]
def internal_stringslite_HasPrefix.X : List ResultVar := [.tmp 4]
noncomputable def internal_stringslite_HasPrefix.f (s : ByteArray) (t1 : ByteArray) : Option (Bool) := Fn internal_stringslite_HasPrefix.E internal_stringslite_HasPrefix.T internal_stringslite_HasPrefix.C internal_stringslite_HasPrefix.P internal_stringslite_HasPrefix.R internal_stringslite_HasPrefix.X (s, t1)
theorem internal_stringslite_HasPrefix.f_eq (s : ByteArray) (t1 : ByteArray) : internal_stringslite_HasPrefix.f s t1 =
  (bif (decide ((s.size : Int) ≥ (t1.size : Int))) then (bif ((decide (0 ≤ (t1.size : Int))) && (decide ((t1.size : Int) ≤ (s.size : Int)))) then (some ((s.extract 0 ((t1.size : Int)).toNat).toList == t1.toList)) else none) else (some false)) := by kernel_rfl
noncomputable def internal_stringslite_HasPrefix.S : Abs.Sum := ⟨internal_stringslite_HasPrefix.P, internal_stringslite_HasPrefix.R, fun _ => Fn internal_stringslite_HasPrefix.E internal_stringslite_HasPrefix.T internal_stringslite_HasPrefix.C internal_stringslite_HasPrefix.P internal_stringslite_HasPrefix.R internal_stringslite_HasPrefix.X⟩
theorem internal_stringslite_HasPrefix.meets : Meets Try.prog 112 internal_stringslite_HasPrefix.S := meets_tab (S := internal_stringslite_HasPrefix.U) tabOk_all AllMeets.nil AllStill.nil follows (by kernel_rfl : Try.prog.funcs[112]? = some Try.f112) (by kernel_rfl) (by kernel_rfl) (by kernel_rfl)
noncomputable def strings_HasPrefix.C : Code := Try.f101.body.getD .skip
def strings_HasPrefix.P : Par := (.cons (.val .str) (.cons (.val .str) .nil))
noncomputable def strings_HasPrefix.U : SumTab := [(112, [], internal_stringslite_HasPrefix.S)]
noncomputable def strings_HasPrefix.E : Env := mkEnv TY AR strings_HasPrefix.U
noncomputable def strings_HasPrefix.T : Tab := fun k => look k []
def strings_HasPrefix.R : List (Nat × Ty) := [(0, .bool)]
def strings_HasPrefix.X : List ResultVar := [.tmp 4]
noncomputable def strings_HasPrefix.f (s : ByteArray) (t1 : ByteArray) : Option (Bool) := Fn strings_HasPrefix.E strings_HasPrefix.T strings_HasPrefix.C strings_HasPrefix.P strings_HasPrefix.R strings_HasPrefix.X (s, t1)
theorem strings_HasPrefix.f_eq (s : ByteArray) (t1 : ByteArray) : strings_HasPrefix.f s t1 =
  ((internal_stringslite_HasPrefix.f s t1).bind fun y1 =>
  some y1) := by kernel_rfl
noncomputable def strings_HasPrefix.S : Abs.Sum := ⟨strings_HasPrefix.P, strings_HasPrefix.R, fun _ => Fn strings_HasPrefix.E strings_HasPrefix.T strings_HasPrefix.C strings_HasPrefix.P strings_HasPrefix.R strings_HasPrefix.X⟩
theorem strings_HasPrefix.meets : Meets Try.prog 101 strings_HasPrefix.S := meets_tab (S := strings_HasPrefix.U) tabOk_all (AllMeets.cons internal_stringslite_HasPrefix.meets AllMeets.nil) (AllStill.cons (fun _ _ _ => rfl) AllStill.nil) follows (by kernel_rfl : Try.prog.funcs[101]? = some Try.f101) (by kernel_rfl) (by kernel_rfl) (by kernel_rfl)
noncomputable def internal_stringslite_TrimSuffix.C : Code := Try.f118.body.getD .skip
def internal_stringslite_TrimSuffix.P : Par := (.cons (.val .str) (.cons (.val .str) .nil))
noncomputable def internal_stringslite_TrimSuffix.U : SumTab := [(107, [], internal_stringslite_HasSuffix.S)]
noncomputable def internal_stringslite_TrimSuffix.E : Env := mkEnv TY AR internal_stringslite_TrimSuffix.U
noncomputable def internal_stringslite_TrimSuffix.T : Tab := fun k => look k []
def internal_stringslite_TrimSuffix.R : List (Nat × Ty) := [(0, .str)]
def internal_stringslite_TrimSuffix.X : List ResultVar := [.tmp 4]
noncomputable def internal_stringslite_TrimSuffix.f (s : ByteArray) (suffix : ByteArray) : Option (ByteArray) := Fn internal_stringslite_TrimSuffix.E internal_stringslite_TrimSuffix.T internal_stringslite_TrimSuffix.C internal_stringslite_TrimSuffix.P internal_stringslite_TrimSuffix.R internal_stringslite_TrimSuffix.X (s, suffix)
theorem internal_stringslite_TrimSuffix.f_eq (s : ByteArray) (suffix : ByteArray) : internal_stringslite_TrimSuffix.f s suffix =
  ((internal_stringslite_HasSuffix.f s suffix).bind fun y1 =>
  bif y1 then (bif ((decide (0 ≤ (w64 ((s.size : Int) - (suffix.size : Int))))) && (decide ((w64 ((s.size : Int) - (suffix.size : Int))) ≤ (s.size : Int)))) then (some (s.extract 0 ((w64 ((s.size : Int) - (suffix.size : Int)))).toNat)) else none) else (some s)) := by kernel_rfl
noncomputable def internal_stringslite_TrimSuffix.S : Abs.Sum := ⟨internal_stringslite_TrimSuffix.P, internal_stringslite_TrimSuffix.R, fun _ => Fn internal_stringslite_TrimSuffix.E internal_stringslite_TrimSuffix.T internal_stringslite_TrimSuffix.C internal_stringslite_TrimSuffix.P internal_stringslite_TrimSuffix.R internal_stringslite_TrimSuffix.X⟩
theorem internal_stringslite_TrimSuffix.meets : Meets Try.prog 118 internal_stringslite_TrimSuffix.S := meets_tab (S := internal_stringslite_TrimSuffix.U) tabOk_all (AllMeets.cons internal_stringslite_HasSuffix.meets AllMeets.nil) (AllStill.cons (fun _ _ _ => rfl) AllStill.nil) follows (by kernel_rfl : Try.prog.funcs[118]? = some Try.f118) (by kernel_rfl) (by kernel_rfl) (by kernel_rfl)
noncomputable def strings_TrimSuffix.C : Code := Try.f113.body.getD .skip
def strings_TrimSuffix.P : Par := (.cons (.val .str) (.cons (.val .str) .nil))
noncomputable def strings_TrimSuffix.U : SumTab := [(118, [], internal_stringslite_TrimSuffix.S)]
noncomputable def strings_TrimSuffix.E : Env := mkEnv TY AR strings_TrimSuffix.U
noncomputable def strings_TrimSuffix.T : Tab := fun k => look k []
def strings_TrimSuffix.R : List (Nat × Ty) := [(0, .str)]
def strings_TrimSuffix.X : List ResultVar := [.tmp 4]
noncomputable def strings_TrimSuffix.f (s : ByteArray) (suffix : ByteArray) : Option (ByteArray) := Fn strings_TrimSuffix.E strings_TrimSuffix.T strings_TrimSuffix.C strings_TrimSuffix.P strings_TrimSuffix.R strings_TrimSuffix.X (s, suffix)
theorem strings_TrimSuffix.f_eq (s : ByteArray) (suffix : ByteArray) : strings_TrimSuffix.f s suffix =
  ((internal_stringslite_TrimSuffix.f s suffix).bind fun y1 =>
  some y1) := by kernel_rfl
noncomputable def strings_TrimSuffix.S : Abs.Sum := ⟨strings_TrimSuffix.P, strings_TrimSuffix.R, fun _ => Fn strings_TrimSuffix.E strings_TrimSuffix.T strings_TrimSuffix.C strings_TrimSuffix.P strings_TrimSuffix.R strings_TrimSuffix.X⟩
theorem strings_TrimSuffix.meets : Meets Try.prog 113 strings_TrimSuffix.S := meets_tab (S := strings_TrimSuffix.U) tabOk_all (AllMeets.cons internal_stringslite_TrimSuffix.meets AllMeets.nil) (AllStill.cons (fun _ _ _ => rfl) AllStill.nil) follows (by kernel_rfl : Try.prog.funcs[113]? = some Try.f113) (by kernel_rfl) (by kernel_rfl) (by kernel_rfl)
noncomputable def impl_plain.C : Code := Try.f102.body.getD .skip
def impl_plain.P : Par := (.cons (.val .str) .nil)
noncomputable def impl_plain.U : SumTab := [(113, [], strings_TrimSuffix.S)]
noncomputable def impl_plain.E : Env := mkEnv TY AR impl_plain.U
noncomputable def impl_plain.T : Tab := fun k => look k []
def impl_plain.R : List (Nat × Ty) := [(0, .str)]
def impl_plain.X : List ResultVar := [.tmp 2]
noncomputable def impl_plain.f (line : ByteArray) : Option (ByteArray) := Fn impl_plain.E impl_plain.T impl_plain.C impl_plain.P impl_plain.R impl_plain.X line
theorem impl_plain.f_eq (line : ByteArray) : impl_plain.f line =
  ((strings_TrimSuffix.f line (⟨#[10]⟩ : ByteArray)).bind fun y1 =>
  some y1) := by kernel_rfl
noncomputable def impl_plain.S : Abs.Sum := ⟨impl_plain.P, impl_plain.R, fun _ => Fn impl_plain.E impl_plain.T impl_plain.C impl_plain.P impl_plain.R impl_plain.X⟩
theorem impl_plain.meets : Meets Try.prog 102 impl_plain.S := meets_tab (S := impl_plain.U) tabOk_all (AllMeets.cons strings_TrimSuffix.meets AllMeets.nil) (AllStill.cons (fun _ _ _ => rfl) AllStill.nil) follows (by kernel_rfl : Try.prog.funcs[102]? = some Try.f102) (by kernel_rfl) (by kernel_rfl) (by kernel_rfl)
noncomputable def impl_run.C : Code := Try.f81.body.getD .skip
def impl_run.P : Par := (.cons (.own 5 .str) (.cons (.val (.pair (.int .i64) (.pair (.int .i64) (.pair (.int .i64) (.one (.list .str)))))) .nil))
noncomputable def impl_run.U : SumTab := [(71, [], slices_Insert_Lstring_string.S), (44, [], slices_Replace_Lstring_string.S), (101, [], strings_HasPrefix.S), (102, [], impl_plain.S)]
noncomputable def impl_run.E : Env := mkEnv TY AR impl_run.U
def impl_run.D23 : CutD := ⟨[0, 3], (.cons (.own 5 .str) (.cons (.box 0 (.pair (.int .i64) (.pair (.int .i64) (.pair (.int .i64) (.one (.list .str)))))) .nil))⟩
noncomputable def impl_run.T : Tab := fun k => look k [(23, impl_run.D23)]
def impl_run.R : List (Nat × Ty) := [(9, .list .str), (0, .int .i64)]
def impl_run.X : List ResultVar := [.tmp 4, .tmp 5]
noncomputable def impl_run.K := fin impl_run.E ⟨impl_run.P, impl_run.R, fun _ _ => none⟩ impl_run.X impl_run.P.len 0
noncomputable def impl_run.l23 (l : List ByteArray) (o : Int × Int × Int × List ByteArray) : Option ((List ByteArray) × Int) := fixP impl_run.E impl_run.T impl_run.C impl_run.K 23 impl_run.D23 (l, o)
noncomputable def impl_run.f (l : List ByteArray) (o : Int × Int × Int × List ByteArray) : Option ((List ByteArray) × Int) := Fn impl_run.E impl_run.T impl_run.C impl_run.P impl_run.R impl_run.X (l, o)
theorem impl_run.l23_eq (l : List ByteArray) (o : Int × Int × Int × List ByteArray) : impl_run.l23 l o =
  (bif ((decide (0 ≤ (w64 (o.2.1 - 1)))) && (decide ((w64 (o.2.1 - 1)) < (l.length : Int)))) then ((strings_HasPrefix.f (l.getD ((w64 (o.2.1 - 1))).toNat em) (⟨#[46]⟩ : ByteArray)).bind fun y1 =>
   bif (!y1) then (some (([] : List ByteArray), 2)) else
   ((impl_plain.f (l.getD ((w64 (o.2.1 - 1))).toNat em)).bind fun y2 =>
    bif (y2.toList == (⟨#[46]⟩ : ByteArray).toList) then (some (([] : List ByteArray), 2)) else
    (bif (decide (1 ≤ ((l.getD ((w64 (o.2.1 - 1))).toNat em).size : Int))) then (bif ((decide (0 ≤ (w64 (o.2.1 - 1)))) && (decide ((w64 (o.2.1 - 1)) < (l.length : Int)))) then (some ((l.set ((w64 (o.2.1 - 1))).toNat ((l.getD ((w64 (o.2.1 - 1))).toNat em).extract 1 (l.getD ((w64 (o.2.1 - 1))).toNat em).size)), 0)) else none) else none))) else none) :=
  (fixP_eq impl_run.E impl_run.T impl_run.C impl_run.K 23 impl_run.D23 (l, o)).trans (by kernel_rfl)
theorem impl_run.f_eq (l : List ByteArray) (o : Int × Int × Int × List ByteArray) : impl_run.f l o =
  (bif (decide (o.2.2.1 > (l.length : Int))) then (some (([] : List ByteArray), 3)) else
  (bif (decide (o.1 = 1)) then ((slices_Insert_Lstring_string.f l o.2.1 o.2.2.2).bind fun y1 =>
    some (y1, 0)) else
   (bif (decide (o.1 = 2)) then ((slices_Insert_Lstring_string.f l (w64 (o.2.1 - 1)) o.2.2.2).bind fun y1 =>
     some (y1, 0)) else
    (bif (decide (o.1 = 3)) then ((slices_Replace_Lstring_string.f l (w64 (o.2.1 - 1)) o.2.2.1 o.2.2.2).bind fun y1 =>
      some (y1, 0)) else
     (bif (decide (o.1 = 4)) then ((slices_Replace_Lstring_string.f l (w64 (o.2.1 - 1)) o.2.2.1 o.2.2.2).bind fun y1 =>
       some (y1, 0)) else
      (impl_run.l23 l o)))))) := by kernel_rfl
noncomputable def impl_run.S : Abs.Sum := ⟨impl_run.P, impl_run.R, fun _ => Fn impl_run.E impl_run.T impl_run.C impl_run.P impl_run.R impl_run.X⟩
theorem impl_run.meets : Meets Try.prog 81 impl_run.S := meets_tab (S := impl_run.U) tabOk_all (AllMeets.cons slices_Insert_Lstring_string.meets (AllMeets.cons slices_Replace_Lstring_string.meets (AllMeets.cons strings_HasPrefix.meets (AllMeets.cons impl_plain.meets AllMeets.nil)))) (AllStill.cons (fun _ _ _ => rfl) (AllStill.cons (fun _ _ _ => rfl) (AllStill.cons (fun _ _ _ => rfl) (AllStill.cons (fun _ _ _ => rfl) AllStill.nil)))) follows (by kernel_rfl : Try.prog.funcs[81]? = some Try.f81) (by kernel_rfl) (by kernel_rfl) (by kernel_rfl)
noncomputable def impl_RunOrders.C : Code := Try.f54.body.getD .skip
def impl_RunOrders.P : Par := (.cons (.val (.list .str)) (.cons (.val (.list (.pair (.int .i64) (.pair (.int .i64) (.pair (.int .i64) (.one (.list .str))))))) .nil))
noncomputable def impl_RunOrders.U : SumTab := [(37, [], impl_goodLines.S), (80, [], impl_goodOrders.S), (40, [], slices_Clone_Lstring_string.S), (55, [], impl_isWhole.S), (81, [], impl_run.S)]
noncomputable def impl_RunOrders.E : Env := mkEnv TY AR impl_RunOrders.U
def impl_RunOrders.D7 : CutD := ⟨[0, 1], (.cons (.val (.list .str)) (.cons (.val (.list (.pair (.int .i64) (.pair (.int .i64) (.pair (.int .i64) (.one (.list .str))))))) .nil))⟩
def impl_RunOrders.D13 : CutD := ⟨[1, 7], (.cons (.val (.list (.pair (.int .i64) (.pair (.int .i64) (.pair (.int .i64) (.one (.list .str))))))) (.cons (.own 8 .str) .nil))⟩
def impl_RunOrders.D14 : CutD := ⟨[7, 32, 33, 34], (.cons (.own 8 .str) (.cons (.val (.list (.pair (.int .i64) (.pair (.int .i64) (.pair (.int .i64) (.one (.list .str))))))) (.cons (.val (.int .i64)) (.cons (.val (.int .i64)) .nil))))⟩
noncomputable def impl_RunOrders.T : Tab := fun k => look k [(7, impl_RunOrders.D7), (13, impl_RunOrders.D13), (14, impl_RunOrders.D14)]
def impl_RunOrders.R : List (Nat × Ty) := [(9, .list .str), (0, .int .i64), (0, .bool)]
def impl_RunOrders.X : List ResultVar := [.tmp 4, .tmp 5, .tmp 6]
noncomputable def impl_RunOrders.K := fin impl_RunOrders.E ⟨impl_RunOrders.P, impl_RunOrders.R, fun _ _ => none⟩ impl_RunOrders.X impl_RunOrders.P.len 0
noncomputable def impl_RunOrders.l7 (l : List ByteArray) (o : List (Int × Int × Int × List ByteArray)) : Option ((List ByteArray) × Int × Bool) := fixP impl_RunOrders.E impl_RunOrders.T impl_RunOrders.C impl_RunOrders.K 7 impl_RunOrders.D7 (l, o)
noncomputable def impl_RunOrders.l13 (o : List (Int × Int × Int × List ByteArray)) (out : List ByteArray) : Option ((List ByteArray) × Int × Bool) := fixP impl_RunOrders.E impl_RunOrders.T impl_RunOrders.C impl_RunOrders.K 13 impl_RunOrders.D13 (o, out)
noncomputable def impl_RunOrders.l14 (out : List ByteArray) (t32 : List (Int × Int × Int × List ByteArray)) (t33 : Int) (t34 : Int) : Option ((List ByteArray) × Int × Bool) := fixP impl_RunOrders.E impl_RunOrders.T impl_RunOrders.C impl_RunOrders.K 14 impl_RunOrders.D14 (out, t32, t33, t34)
noncomputable def impl_RunOrders.f (l : List ByteArray) (o : List (Int × Int × Int × List ByteArray)) : Option ((List ByteArray) × Int × Bool) := Fn impl_RunOrders.E impl_RunOrders.T impl_RunOrders.C impl_RunOrders.P impl_RunOrders.R impl_RunOrders.X (l, o)
theorem impl_RunOrders.l7_eq (l : List ByteArray) (o : List (Int × Int × Int × List ByteArray)) : impl_RunOrders.l7 l o =
  ((slices_Clone_Lstring_string.f l).bind fun y1 =>
  (impl_isWhole.f y1).bind fun y2 =>
  bif (!y2) then (bif ((decide (0 ≤ (w64 ((y1.length : Int) - 1)))) && (decide ((w64 ((y1.length : Int) - 1)) < (y1.length : Int)))) then (bif (decide (((y1.getD ((w64 ((y1.length : Int) - 1))).toNat em).size + (⟨#[10]⟩ : ByteArray).size) ≤ 9223372036854775807)) then (bif ((decide (0 ≤ (w64 ((y1.length : Int) - 1)))) && (decide ((w64 ((y1.length : Int) - 1)) < (y1.length : Int)))) then (impl_RunOrders.l13 o (y1.set ((w64 ((y1.length : Int) - 1))).toNat ((y1.getD ((w64 ((y1.length : Int) - 1))).toNat em) ++ (⟨#[10]⟩ : ByteArray)))) else none) else none) else none) else
  (impl_RunOrders.l13 o y1)) :=
  (fixP_eq impl_RunOrders.E impl_RunOrders.T impl_RunOrders.C impl_RunOrders.K 7 impl_RunOrders.D7 (l, o)).trans (by kernel_rfl)
theorem impl_RunOrders.l13_eq (o : List (Int × Int × Int × List ByteArray)) (out : List ByteArray) : impl_RunOrders.l13 o out =
  (impl_RunOrders.l14 out o (o.length : Int) 0) :=
  (fixP_eq impl_RunOrders.E impl_RunOrders.T impl_RunOrders.C impl_RunOrders.K 13 impl_RunOrders.D13 (o, out)).trans (by kernel_rfl)
theorem impl_RunOrders.l14_eq (out : List ByteArray) (t32 : List (Int × Int × Int × List ByteArray)) (t33 : Int) (t34 : Int) : impl_RunOrders.l14 out t32 t33 t34 =
  (bif (decide (t34 < t33)) then (bif ((decide (0 ≤ t34)) && (decide (t34 < (t32.length : Int)))) then ((impl_run.f out (t32.getD (t34).toNat (0, 0, 0, ([] : List ByteArray)))).bind fun y1 =>
    bif (!(decide (y1.2 = 0))) then (some (([] : List ByteArray), y1.2, true)) else
    (impl_RunOrders.l14 y1.1 t32 t33 (w64 (t34 + 1)))) else none) else
  ((impl_goodLines.f out).bind fun y1 =>
   bif (!y1) then (some (([] : List ByteArray), 2, true)) else (some (out, 0, true)))) :=
  (fixP_eq impl_RunOrders.E impl_RunOrders.T impl_RunOrders.C impl_RunOrders.K 14 impl_RunOrders.D14 (out, t32, t33, t34)).trans (by kernel_rfl)
theorem impl_RunOrders.f_eq (l : List ByteArray) (o : List (Int × Int × Int × List ByteArray)) : impl_RunOrders.f l o =
  ((impl_goodLines.f l).bind fun y1 =>
  bif (!y1) then (some (([] : List ByteArray), 0, false)) else
  ((impl_goodOrders.f o).bind fun y2 =>
   bif (!y2) then (some (([] : List ByteArray), 0, false)) else
   (impl_RunOrders.l7 l o))) := by kernel_rfl
noncomputable def impl_RunOrders.S : Abs.Sum := ⟨impl_RunOrders.P, impl_RunOrders.R, fun _ => Fn impl_RunOrders.E impl_RunOrders.T impl_RunOrders.C impl_RunOrders.P impl_RunOrders.R impl_RunOrders.X⟩
theorem impl_RunOrders.meets : Meets Try.prog 54 impl_RunOrders.S := meets_tab (S := impl_RunOrders.U) tabOk_all (AllMeets.cons impl_goodLines.meets (AllMeets.cons impl_goodOrders.meets (AllMeets.cons slices_Clone_Lstring_string.meets (AllMeets.cons impl_isWhole.meets (AllMeets.cons impl_run.meets AllMeets.nil))))) (AllStill.cons (fun _ _ _ => rfl) (AllStill.cons (fun _ _ _ => rfl) (AllStill.cons (fun _ _ _ => rfl) (AllStill.cons (fun _ _ _ => rfl) (AllStill.cons (fun _ _ _ => rfl) AllStill.nil))))) follows (by kernel_rfl : Try.prog.funcs[54]? = some Try.f54) (by kernel_rfl) (by kernel_rfl) (by kernel_rfl)
noncomputable def impl_common.C : Code := Try.f115.body.getD .skip
def impl_common.P : Par := (.cons (.val (.list .str)) (.cons (.val (.list .str)) .nil))
noncomputable def impl_common.U : SumTab := []
noncomputable def impl_common.E : Env := mkEnv TY AR impl_common.U
def impl_common.D8 : CutD := ⟨[0, 1, 5, 6], (.cons (.val (.list .str)) (.cons (.val (.list .str)) (.cons (.own 9 (.list (.int .i64))) (.cons (.val (.int .i64)) .nil))))⟩
def impl_common.D16 : CutD := ⟨[0, 1, 5, 6, 7], (.cons (.val (.list .str)) (.cons (.val (.list .str)) (.cons (.own 9 (.list (.int .i64))) (.cons (.val (.int .i64)) (.cons (.val (.int .i64)) .nil)))))⟩
noncomputable def impl_common.T : Tab := fun k => look k [(8, impl_common.D8), (16, impl_common.D16)]
def impl_common.R : List (Nat × Ty) := [(9, .list (.list (.int .i64)))]
def impl_common.X : List ResultVar := [.tmp 4]
noncomputable def impl_common.K := fin impl_common.E ⟨impl_common.P, impl_common.R, fun _ _ => none⟩ impl_common.X impl_common.P.len 0
noncomputable def impl_common.l8 (a : List ByteArray) (b : List ByteArray) (out : List (List Int)) (i : Int) : Option ((List (List Int))) := fixP impl_common.E impl_common.T impl_common.C impl_common.K 8 impl_common.D8 (a, b, out, i)
noncomputable def impl_common.l16 (a : List ByteArray) (b : List ByteArray) (out : List (List Int)) (i : Int) (j : Int) : Option ((List (List Int))) := fixP impl_common.E impl_common.T impl_common.C impl_common.K 16 impl_common.D16 (a, b, out, i, j)
noncomputable def impl_common.f (a : List ByteArray) (b : List ByteArray) : Option ((List (List Int))) := Fn impl_common.E impl_common.T impl_common.C impl_common.P impl_common.R impl_common.X (a, b)
theorem impl_common.l8_eq (a : List ByteArray) (b : List ByteArray) (out : List (List Int)) (i : Int) : impl_common.l8 a b out i =
  (bif (decide (i ≥ 0)) then (bif ((decide (0 ≤ (w64 ((b.length : Int) + 1)))) && (decide (((w64 ((b.length : Int) + 1))).toNat ≤ room 8))) then (bif ((decide (0 ≤ i)) && (decide (i < (out.length : Int)))) then (impl_common.l16 a b (out.set (i).toNat (List.replicate ((w64 ((b.length : Int) + 1))).toNat 0)) i (w64 ((b.length : Int) - 1))) else none) else none) else (some out)) :=
  (fixP_eq impl_common.E impl_common.T impl_common.C impl_common.K 8 impl_common.D8 (a, b, out, i)).trans (by kernel_rfl)
theorem impl_common.l16_eq (a : List ByteArray) (b : List ByteArray) (out : List (List Int)) (i : Int) (j : Int) : impl_common.l16 a b out i j =
  (bif (decide (j ≥ 0)) then (bif ((decide (0 ≤ i)) && (decide (i < (a.length : Int)))) then (bif ((decide (0 ≤ j)) && (decide (j < (b.length : Int)))) then (bif ((a.getD (i).toNat em).toList == (b.getD (j).toNat em).toList) then (bif ((decide (0 ≤ i)) && (decide (i < (out.length : Int)))) then (bif ((decide (0 ≤ (w64 (i + 1)))) && (decide ((w64 (i + 1)) < (out.length : Int)))) then (bif ((decide (0 ≤ (w64 (j + 1)))) && (decide ((w64 (j + 1)) < ((out.getD ((w64 (i + 1))).toNat ([] : List Int)).length : Int)))) then (bif ((decide (0 ≤ j)) && (decide (j < ((out.getD (i).toNat ([] : List Int)).length : Int)))) then (impl_common.l16 a b (out.set (i).toNat ((out.getD (i).toNat ([] : List Int)).set (j).toNat (w64 (((out.getD ((w64 (i + 1))).toNat ([] : List Int)).getD ((w64 (j + 1))).toNat 0) + 1)))) i (w64 (j - 1))) else none) else none) else none) else none) else
     (bif ((decide (0 ≤ i)) && (decide (i < (out.length : Int)))) then (bif ((decide (0 ≤ (w64 (i + 1)))) && (decide ((w64 (i + 1)) < (out.length : Int)))) then (bif ((decide (0 ≤ j)) && (decide (j < ((out.getD ((w64 (i + 1))).toNat ([] : List Int)).length : Int)))) then (bif ((decide (0 ≤ i)) && (decide (i < (out.length : Int)))) then (bif ((decide (0 ≤ (w64 (j + 1)))) && (decide ((w64 (j + 1)) < ((out.getD (i).toNat ([] : List Int)).length : Int)))) then (bif ((decide (0 ≤ j)) && (decide (j < ((out.getD (i).toNat ([] : List Int)).length : Int)))) then (impl_common.l16 a b (out.set (i).toNat ((out.getD (i).toNat ([] : List Int)).set (j).toNat (max ((out.getD ((w64 (i + 1))).toNat ([] : List Int)).getD (j).toNat 0) ((out.getD (i).toNat ([] : List Int)).getD ((w64 (j + 1))).toNat 0)))) i (w64 (j - 1))) else none) else none) else none) else none) else none) else none)) else none) else none) else
  (impl_common.l8 a b out (w64 (i - 1)))) :=
  (fixP_eq impl_common.E impl_common.T impl_common.C impl_common.K 16 impl_common.D16 (a, b, out, i, j)).trans (by kernel_rfl)
theorem impl_common.f_eq (a : List ByteArray) (b : List ByteArray) : impl_common.f a b =
  (bif ((decide (0 ≤ (w64 ((a.length : Int) + 1)))) && (decide (((w64 ((a.length : Int) + 1))).toNat ≤ room 24))) then (bif ((decide (0 ≤ (w64 ((b.length : Int) + 1)))) && (decide (((w64 ((b.length : Int) + 1))).toNat ≤ room 8))) then (bif ((decide (0 ≤ (a.length : Int))) && (decide ((a.length : Int) < ((List.replicate ((w64 ((a.length : Int) + 1))).toNat ([] : List Int)).length : Int)))) then (impl_common.l8 a b ((List.replicate ((w64 ((a.length : Int) + 1))).toNat ([] : List Int)).set ((a.length : Int)).toNat (List.replicate ((w64 ((b.length : Int) + 1))).toNat 0)) (w64 ((a.length : Int) - 1))) else none) else none) else none) := by kernel_rfl
noncomputable def impl_common.S : Abs.Sum := ⟨impl_common.P, impl_common.R, fun _ => Fn impl_common.E impl_common.T impl_common.C impl_common.P impl_common.R impl_common.X⟩
theorem impl_common.meets : Meets Try.prog 115 impl_common.S := meets_tab (S := impl_common.U) tabOk_all AllMeets.nil AllStill.nil follows (by kernel_rfl : Try.prog.funcs[115]? = some Try.f115) (by kernel_rfl) (by kernel_rfl) (by kernel_rfl)
noncomputable def impl_commonLines.C : Code := Try.f104.body.getD .skip
def impl_commonLines.P : Par := (.cons (.val (.list .str)) (.cons (.val (.list .str)) .nil))
noncomputable def impl_commonLines.U : SumTab := [(115, [], impl_common.S)]
noncomputable def impl_commonLines.E : Env := mkEnv TY AR impl_commonLines.U
def impl_commonLines.D8 : CutD := ⟨[0, 1, 5, 6, 7, 8, 21, 22], (.cons (.val (.list .str)) (.cons (.val (.list .str)) (.cons (.own 8 (.list (.int .i64))) (.cons (.own 9 (.list (.int .i64))) (.cons (.val (.int .i64)) (.cons (.val (.int .i64)) (.cons (.val (.int .i64)) (.cons (.val (.int .i64)) .nil))))))))⟩
def impl_commonLines.D14 : CutD := ⟨[0, 1, 5, 6, 7, 8, 9, 10, 21, 22], (.cons (.val (.list .str)) (.cons (.val (.list .str)) (.cons (.own 8 (.list (.int .i64))) (.cons (.own 9 (.list (.int .i64))) (.cons (.val (.int .i64)) (.cons (.val (.int .i64)) (.cons (.val (.int .i64)) (.cons (.val (.int .i64)) (.cons (.val (.int .i64)) (.cons (.val (.int .i64)) .nil))))))))))⟩
def impl_commonLines.D19 : CutD := ⟨[0, 1, 5, 6, 7, 8, 9, 10, 21, 22], (.cons (.val (.list .str)) (.cons (.val (.list .str)) (.cons (.own 8 (.list (.int .i64))) (.cons (.own 9 (.list (.int .i64))) (.cons (.val (.int .i64)) (.cons (.val (.int .i64)) (.cons (.val (.int .i64)) (.cons (.val (.int .i64)) (.cons (.val (.int .i64)) (.cons (.val (.int .i64)) .nil))))))))))⟩
noncomputable def impl_commonLines.T : Tab := fun k => look k [(8, impl_commonLines.D8), (14, impl_commonLines.D14), (19, impl_commonLines.D19)]
def impl_commonLines.R : List (Nat × Ty) := [(9, .list (.list (.int .i64)))]
def impl_commonLines.X : List ResultVar := [.tmp 4]
noncomputable def impl_commonLines.K := fin impl_commonLines.E ⟨impl_commonLines.P, impl_commonLines.R, fun _ _ => none⟩ impl_commonLines.X impl_commonLines.P.len 0
noncomputable def impl_commonLines.l8 (a : List ByteArray) (b : List ByteArray) (table : List (List Int)) (out : List (List Int)) (j : Int) (left : Int) (t21 : Int) (t22 : Int) : Option ((List (List Int))) := fixP impl_commonLines.E impl_commonLines.T impl_commonLines.C impl_commonLines.K 8 impl_commonLines.D8 (a, b, table, out, j, left, t21, t22)
noncomputable def impl_commonLines.l14 (a : List ByteArray) (b : List ByteArray) (table : List (List Int)) (out : List (List Int)) (j : Int) (left : Int) (i : Int) (k : Int) (t21 : Int) (t22 : Int) : Option ((List (List Int))) := fixP impl_commonLines.E impl_commonLines.T impl_commonLines.C impl_commonLines.K 14 impl_commonLines.D14 (a, b, table, out, j, left, i, k, t21, t22)
noncomputable def impl_commonLines.l19 (a : List ByteArray) (b : List ByteArray) (table : List (List Int)) (out : List (List Int)) (j : Int) (left : Int) (i : Int) (k : Int) (t21 : Int) (t22 : Int) : Option ((List (List Int))) := fixP impl_commonLines.E impl_commonLines.T impl_commonLines.C impl_commonLines.K 19 impl_commonLines.D19 (a, b, table, out, j, left, i, k, t21, t22)
noncomputable def impl_commonLines.f (a : List ByteArray) (b : List ByteArray) : Option ((List (List Int))) := Fn impl_commonLines.E impl_commonLines.T impl_commonLines.C impl_commonLines.P impl_commonLines.R impl_commonLines.X (a, b)
theorem impl_commonLines.l8_eq (a : List ByteArray) (b : List ByteArray) (table : List (List Int)) (out : List (List Int)) (j : Int) (left : Int) (t21 : Int) (t22 : Int) : impl_commonLines.l8 a b table out j left t21 t22 =
  (bif (decide (t22 < t21)) then (impl_commonLines.l14 a b table out j left t22 j t21 t22) else (some out)) :=
  (fixP_eq impl_commonLines.E impl_commonLines.T impl_commonLines.C impl_commonLines.K 8 impl_commonLines.D8 (a, b, table, out, j, left, t21, t22)).trans (by kernel_rfl)
theorem impl_commonLines.l14_eq (a : List ByteArray) (b : List ByteArray) (table : List (List Int)) (out : List (List Int)) (j : Int) (left : Int) (i : Int) (k : Int) (t21 : Int) (t22 : Int) : impl_commonLines.l14 a b table out j left i k t21 t22 =
  (bif (decide (k < (b.length : Int))) then (bif (decide (left > 0)) then (impl_commonLines.l19 a b table out j left i k t21 t22) else
   (impl_commonLines.l8 a b table out j left t21 (w64 (t22 + 1)))) else
  (impl_commonLines.l8 a b table out j left t21 (w64 (t22 + 1)))) :=
  (fixP_eq impl_commonLines.E impl_commonLines.T impl_commonLines.C impl_commonLines.K 14 impl_commonLines.D14 (a, b, table, out, j, left, i, k, t21, t22)).trans (by kernel_rfl)
theorem impl_commonLines.l19_eq (a : List ByteArray) (b : List ByteArray) (table : List (List Int)) (out : List (List Int)) (j : Int) (left : Int) (i : Int) (k : Int) (t21 : Int) (t22 : Int) : impl_commonLines.l19 a b table out j left i k t21 t22 =
  (bif ((decide (0 ≤ i)) && (decide (i < (a.length : Int)))) then (bif ((decide (0 ≤ k)) && (decide (k < (b.length : Int)))) then (bif ((a.getD (i).toNat em).toList == (b.getD (k).toNat em).toList) then (bif ((decide (0 ≤ (w64 (i + 1)))) && (decide ((w64 (i + 1)) < (table.length : Int)))) then (bif ((decide (0 ≤ (w64 (k + 1)))) && (decide ((w64 (k + 1)) < ((table.getD ((w64 (i + 1))).toNat ([] : List Int)).length : Int)))) then (bif (decide (((table.getD ((w64 (i + 1))).toNat ([] : List Int)).getD ((w64 (k + 1))).toNat 0) = (w64 (left - 1)))) then (bif (decide ((out.length + [[i, k]].length) ≤ room 24)) then (impl_commonLines.l8 a b table (out ++ [[i, k]]) (w64 (k + 1)) (w64 (left - 1)) t21 (w64 (t22 + 1))) else none) else
       (impl_commonLines.l14 a b table out j left i (w64 (k + 1)) t21 t22)) else none) else none) else
    (impl_commonLines.l14 a b table out j left i (w64 (k + 1)) t21 t22)) else none) else none) :=
  (fixP_eq impl_commonLines.E impl_commonLines.T impl_commonLines.C impl_commonLines.K 19 impl_commonLines.D19 (a, b, table, out, j, left, i, k, t21, t22)).trans (by kernel_rfl)
theorem impl_commonLines.f_eq (a : List ByteArray) (b : List ByteArray) : impl_commonLines.f a b =
  ((impl_common.f a b).bind fun y1 =>
  bif (decide (0 < (y1.length : Int))) then (bif (decide (0 < ((y1.getD 0 ([] : List Int)).length : Int))) then (impl_commonLines.l8 a b y1 ([] : List (List Int)) 0 ((y1.getD 0 ([] : List Int)).getD 0 0) (a.length : Int) 0) else none) else none) := by kernel_rfl
noncomputable def impl_commonLines.S : Abs.Sum := ⟨impl_commonLines.P, impl_commonLines.R, fun _ => Fn impl_commonLines.E impl_commonLines.T impl_commonLines.C impl_commonLines.P impl_commonLines.R impl_commonLines.X⟩
theorem impl_commonLines.meets : Meets Try.prog 104 impl_commonLines.S := meets_tab (S := impl_commonLines.U) tabOk_all (AllMeets.cons impl_common.meets AllMeets.nil) (AllStill.cons (fun _ _ _ => rfl) AllStill.nil) follows (by kernel_rfl : Try.prog.funcs[104]? = some Try.f104) (by kernel_rfl) (by kernel_rfl) (by kernel_rfl)
noncomputable def impl_between.C : Code := Try.f103.body.getD .skip
def impl_between.P : Par := (.cons (.val (.list .str)) (.cons (.val (.list .str)) (.cons (.val (.list (.list (.int .i64)))) .nil)))
noncomputable def impl_between.U : SumTab := [(114, [], slices_Clone_LLint_Lint.S), (40, [], slices_Clone_Lstring_string.S)]
noncomputable def impl_between.E : Env := mkEnv TY AR impl_between.U
def impl_between.D6 : CutD := ⟨[1, 7, 8, 9, 21, 22, 23], (.cons (.val (.list .str)) (.cons (.own 9 (.pair (.int .i64) (.pair (.int .i64) (.one (.list .str))))) (.cons (.val (.int .i64)) (.cons (.val (.int .i64)) (.cons (.own 0 (.list (.int .i64))) (.cons (.val (.int .i64)) (.cons (.val (.int .i64)) .nil)))))))⟩
def impl_between.D15 : CutD := ⟨[1, 7, 11, 21, 22, 23], (.cons (.val (.list .str)) (.cons (.own 9 (.pair (.int .i64) (.pair (.int .i64) (.one (.list .str))))) (.cons (.val (.list (.int .i64))) (.cons (.own 0 (.list (.int .i64))) (.cons (.val (.int .i64)) (.cons (.val (.int .i64)) .nil))))))⟩
noncomputable def impl_between.T : Tab := fun k => look k [(6, impl_between.D6), (15, impl_between.D15)]
def impl_between.R : List (Nat × Ty) := [(9, .list (.pair (.int .i64) (.pair (.int .i64) (.one (.list .str)))))]
def impl_between.X : List ResultVar := [.tmp 6]
noncomputable def impl_between.K := fin impl_between.E ⟨impl_between.P, impl_between.R, fun _ _ => none⟩ impl_between.X impl_between.P.len 0
noncomputable def impl_between.l6 (b : List ByteArray) (out : List (Int × Int × List ByteArray)) (i : Int) (j : Int) (t21 : List (List Int)) (t22 : Int) (t23 : Int) : Option ((List (Int × Int × List ByteArray))) := fixP impl_between.E impl_between.T impl_between.C impl_between.K 6 impl_between.D6 (b, out, i, j, t21, t22, t23)
noncomputable def impl_between.l15 (b : List ByteArray) (out : List (Int × Int × List ByteArray)) (p : List Int) (t21 : List (List Int)) (t22 : Int) (t23 : Int) : Option ((List (Int × Int × List ByteArray))) := fixP impl_between.E impl_between.T impl_between.C impl_between.K 15 impl_between.D15 (b, out, p, t21, t22, t23)
noncomputable def impl_between.f (a : List ByteArray) (b : List ByteArray) (pairs : List (List Int)) : Option ((List (Int × Int × List ByteArray))) := Fn impl_between.E impl_between.T impl_between.C impl_between.P impl_between.R impl_between.X (a, b, pairs)
theorem impl_between.l6_eq (b : List ByteArray) (out : List (Int × Int × List ByteArray)) (i : Int) (j : Int) (t21 : List (List Int)) (t22 : Int) (t23 : Int) : impl_between.l6 b out i j t21 t22 t23 =
  (bif (decide (t23 < t22)) then (bif ((decide (0 ≤ t23)) && (decide (t23 < (t21.length : Int)))) then (bif (decide (0 < ((t21.getD (t23).toNat ([] : List Int)).length : Int))) then (bif (decide (((t21.getD (t23).toNat ([] : List Int)).getD 0 0) > i)) then (bif (decide (0 < ((t21.getD (t23).toNat ([] : List Int)).length : Int))) then (bif (decide (1 < ((t21.getD (t23).toNat ([] : List Int)).length : Int))) then (bif ((decide (0 ≤ j)) && ((decide (j ≤ ((t21.getD (t23).toNat ([] : List Int)).getD 1 0))) && (decide (((t21.getD (t23).toNat ([] : List Int)).getD 1 0) ≤ (b.length : Int))))) then ((slices_Clone_Lstring_string.f ((b.take (((t21.getD (t23).toNat ([] : List Int)).getD 1 0)).toNat).drop (j).toNat)).bind fun y1 =>
         bif (decide ((out.length + [(i, (w64 (((t21.getD (t23).toNat ([] : List Int)).getD 0 0) - i)), y1)].length) ≤ room 40)) then (impl_between.l15 b (out ++ [(i, (w64 (((t21.getD (t23).toNat ([] : List Int)).getD 0 0) - i)), y1)]) (t21.getD (t23).toNat ([] : List Int)) t21 t22 t23) else none) else none) else none) else none) else
     (bif (decide (1 < ((t21.getD (t23).toNat ([] : List Int)).length : Int))) then (bif (decide (((t21.getD (t23).toNat ([] : List Int)).getD 1 0) > j)) then (bif (decide (0 < ((t21.getD (t23).toNat ([] : List Int)).length : Int))) then (bif (decide (1 < ((t21.getD (t23).toNat ([] : List Int)).length : Int))) then (bif ((decide (0 ≤ j)) && ((decide (j ≤ ((t21.getD (t23).toNat ([] : List Int)).getD 1 0))) && (decide (((t21.getD (t23).toNat ([] : List Int)).getD 1 0) ≤ (b.length : Int))))) then ((slices_Clone_Lstring_string.f ((b.take (((t21.getD (t23).toNat ([] : List Int)).getD 1 0)).toNat).drop (j).toNat)).bind fun y1 =>
           bif (decide ((out.length + [(i, (w64 (((t21.getD (t23).toNat ([] : List Int)).getD 0 0) - i)), y1)].length) ≤ room 40)) then (impl_between.l15 b (out ++ [(i, (w64 (((t21.getD (t23).toNat ([] : List Int)).getD 0 0) - i)), y1)]) (t21.getD (t23).toNat ([] : List Int)) t21 t22 t23) else none) else none) else none) else none) else
       (impl_between.l15 b out (t21.getD (t23).toNat ([] : List Int)) t21 t22 t23)) else none)) else none) else none) else (some out)) :=
  (fixP_eq impl_between.E impl_between.T impl_between.C impl_between.K 6 impl_between.D6 (b, out, i, j, t21, t22, t23)).trans (by kernel_rfl)
theorem impl_between.l15_eq (b : List ByteArray) (out : List (Int × Int × List ByteArray)) (p : List Int) (t21 : List (List Int)) (t22 : Int) (t23 : Int) : impl_between.l15 b out p t21 t22 t23 =
  (bif (decide (0 < (p.length : Int))) then (bif (decide (1 < (p.length : Int))) then (impl_between.l6 b out (w64 ((p.getD 0 0) + 1)) (w64 ((p.getD 1 0) + 1)) t21 t22 (w64 (t23 + 1))) else none) else none) :=
  (fixP_eq impl_between.E impl_between.T impl_between.C impl_between.K 15 impl_between.D15 (b, out, p, t21, t22, t23)).trans (by kernel_rfl)
theorem impl_between.f_eq (a : List ByteArray) (b : List ByteArray) (pairs : List (List Int)) : impl_between.f a b pairs =
  ((slices_Clone_LLint_Lint.f pairs).bind fun y1 =>
  bif (decide ((y1.length + [[(a.length : Int), (b.length : Int)]].length) ≤ room 24)) then (impl_between.l6 b ([] : List (Int × Int × List ByteArray)) 0 0 (y1 ++ [[(a.length : Int), (b.length : Int)]]) ((y1 ++ [[(a.length : Int), (b.length : Int)]]).length : Int) 0) else none) := by kernel_rfl
noncomputable def impl_between.S : Abs.Sum := ⟨impl_between.P, impl_between.R, fun _ => Fn impl_between.E impl_between.T impl_between.C impl_between.P impl_between.R impl_between.X⟩
theorem impl_between.meets : Meets Try.prog 103 impl_between.S := meets_tab (S := impl_between.U) tabOk_all (AllMeets.cons slices_Clone_LLint_Lint.meets (AllMeets.cons slices_Clone_Lstring_string.meets AllMeets.nil)) (AllStill.cons (fun _ _ _ => rfl) (AllStill.cons (fun _ _ _ => rfl) AllStill.nil)) follows (by kernel_rfl : Try.prog.funcs[103]? = some Try.f103) (by kernel_rfl) (by kernel_rfl) (by kernel_rfl)
noncomputable def impl_diff.C : Code := Try.f82.body.getD .skip
def impl_diff.P : Par := (.cons (.val (.list .str)) (.cons (.val (.list .str)) .nil))
noncomputable def impl_diff.U : SumTab := [(104, [], impl_commonLines.S), (103, [], impl_between.S)]
noncomputable def impl_diff.E : Env := mkEnv TY AR impl_diff.U
noncomputable def impl_diff.T : Tab := fun k => look k []
def impl_diff.R : List (Nat × Ty) := [(9, .list (.pair (.int .i64) (.pair (.int .i64) (.one (.list .str)))))]
def impl_diff.X : List ResultVar := [.tmp 4]
noncomputable def impl_diff.f (a : List ByteArray) (b : List ByteArray) : Option ((List (Int × Int × List ByteArray))) := Fn impl_diff.E impl_diff.T impl_diff.C impl_diff.P impl_diff.R impl_diff.X (a, b)
theorem impl_diff.f_eq (a : List ByteArray) (b : List ByteArray) : impl_diff.f a b =
  ((impl_commonLines.f a b).bind fun y1 =>
  (impl_between.f a b y1).bind fun y2 =>
  some y2) := by kernel_rfl
noncomputable def impl_diff.S : Abs.Sum := ⟨impl_diff.P, impl_diff.R, fun _ => Fn impl_diff.E impl_diff.T impl_diff.C impl_diff.P impl_diff.R impl_diff.X⟩
theorem impl_diff.meets : Meets Try.prog 82 impl_diff.S := meets_tab (S := impl_diff.U) tabOk_all (AllMeets.cons impl_commonLines.meets (AllMeets.cons impl_between.meets AllMeets.nil)) (AllStill.cons (fun _ _ _ => rfl) (AllStill.cons (fun _ _ _ => rfl) AllStill.nil)) follows (by kernel_rfl : Try.prog.funcs[82]? = some Try.f82) (by kernel_rfl) (by kernel_rfl) (by kernel_rfl)
noncomputable def impl_goodHunks.C : Code := Try.f83.body.getD .skip
def impl_goodHunks.P : Par := (.cons (.val (.int .i64)) (.cons (.val (.list (.pair (.int .i64) (.pair (.int .i64) (.one (.list .str)))))) .nil))
noncomputable def impl_goodHunks.U : SumTab := [(68, [], impl_in.S), (65, [], impl_areLines.S)]
noncomputable def impl_goodHunks.E : Env := mkEnv TY AR impl_goodHunks.U
def impl_goodHunks.D7 : CutD := ⟨[0, 1], (.cons (.val (.int .i64)) (.cons (.val (.list (.pair (.int .i64) (.pair (.int .i64) (.one (.list .str)))))) .nil))⟩
def impl_goodHunks.D8 : CutD := ⟨[0, 1, 15, 16, 17], (.cons (.val (.int .i64)) (.cons (.val (.list (.pair (.int .i64) (.pair (.int .i64) (.one (.list .str)))))) (.cons (.val (.list (.pair (.int .i64) (.pair (.int .i64) (.one (.list .str)))))) (.cons (.val (.int .i64)) (.cons (.val (.int .i64)) .nil)))))⟩
def impl_goodHunks.D17 : CutD := ⟨[0, 1, 5, 6, 15, 16, 17], (.cons (.val (.int .i64)) (.cons (.val (.list (.pair (.int .i64) (.pair (.int .i64) (.one (.list .str)))))) (.cons (.val (.int .i64)) (.cons (.box 0 (.pair (.int .i64) (.pair (.int .i64) (.one (.list .str))))) (.cons (.val (.list (.pair (.int .i64) (.pair (.int .i64) (.one (.list .str)))))) (.cons (.val (.int .i64)) (.cons (.val (.int .i64)) .nil)))))))⟩
noncomputable def impl_goodHunks.T : Tab := fun k => look k [(7, impl_goodHunks.D7), (8, impl_goodHunks.D8), (17, impl_goodHunks.D17)]
def impl_goodHunks.R : List (Nat × Ty) := [(0, .bool)]
def impl_goodHunks.X : List ResultVar := [.tmp 4]
noncomputable def impl_goodHunks.K := fin impl_goodHunks.E ⟨impl_goodHunks.P, impl_goodHunks.R, fun _ _ => none⟩ impl_goodHunks.X impl_goodHunks.P.len 0
noncomputable def impl_goodHunks.l7 (many : Int) (h : List (Int × Int × List ByteArray)) : Option (Bool) := fixP impl_goodHunks.E impl_goodHunks.T impl_goodHunks.C impl_goodHunks.K 7 impl_goodHunks.D7 (many, h)
noncomputable def impl_goodHunks.l8 (many : Int) (h : List (Int × Int × List ByteArray)) (t15 : List (Int × Int × List ByteArray)) (t16 : Int) (t17 : Int) : Option (Bool) := fixP impl_goodHunks.E impl_goodHunks.T impl_goodHunks.C impl_goodHunks.K 8 impl_goodHunks.D8 (many, h, t15, t16, t17)
noncomputable def impl_goodHunks.l17 (many : Int) (h : List (Int × Int × List ByteArray)) (i : Int) (x : Int × Int × List ByteArray) (t15 : List (Int × Int × List ByteArray)) (t16 : Int) (t17 : Int) : Option (Bool) := fixP impl_goodHunks.E impl_goodHunks.T impl_goodHunks.C impl_goodHunks.K 17 impl_goodHunks.D17 (many, h, i, x, t15, t16, t17)
noncomputable def impl_goodHunks.f (many : Int) (h : List (Int × Int × List ByteArray)) : Option (Bool) := Fn impl_goodHunks.E impl_goodHunks.T impl_goodHunks.C impl_goodHunks.P impl_goodHunks.R impl_goodHunks.X (many, h)
theorem impl_goodHunks.l7_eq (many : Int) (h : List (Int × Int × List ByteArray)) : impl_goodHunks.l7 many h =
  (impl_goodHunks.l8 many h h (h.length : Int) 0) :=
  (fixP_eq impl_goodHunks.E impl_goodHunks.T impl_goodHunks.C impl_goodHunks.K 7 impl_goodHunks.D7 (many, h)).trans (by kernel_rfl)
theorem impl_goodHunks.l8_eq (many : Int) (h : List (Int × Int × List ByteArray)) (t15 : List (Int × Int × List ByteArray)) (t16 : Int) (t17 : Int) : impl_goodHunks.l8 many h t15 t16 t17 =
  (bif (decide (t17 < t16)) then (bif ((decide (0 ≤ t17)) && (decide (t17 < (t15.length : Int)))) then ((impl_in.f (t15.getD (t17).toNat (0, 0, ([] : List ByteArray))).1 0 many).bind fun y1 =>
    bif (!y1) then (some false) else
    ((impl_in.f (t15.getD (t17).toNat (0, 0, ([] : List ByteArray))).2.1 0 (w64 (many - (t15.getD (t17).toNat (0, 0, ([] : List ByteArray))).1))).bind fun y2 =>
     bif (!y2) then (some false) else
     ((impl_areLines.f (t15.getD (t17).toNat (0, 0, ([] : List ByteArray))).2.2).bind fun y3 =>
      bif (!y3) then (some false) else
      (bif (decide ((t15.getD (t17).toNat (0, 0, ([] : List ByteArray))).2.1 = 0)) then (bif (decide (((t15.getD (t17).toNat (0, 0, ([] : List ByteArray))).2.2.length : Int) = 0)) then (some false) else
        (impl_goodHunks.l17 many h t17 (t15.getD (t17).toNat (0, 0, ([] : List ByteArray))) t15 t16 t17)) else
       (impl_goodHunks.l17 many h t17 (t15.getD (t17).toNat (0, 0, ([] : List ByteArray))) t15 t16 t17))))) else none) else (some true)) :=
  (fixP_eq impl_goodHunks.E impl_goodHunks.T impl_goodHunks.C impl_goodHunks.K 8 impl_goodHunks.D8 (many, h, t15, t16, t17)).trans (by kernel_rfl)
theorem impl_goodHunks.l17_eq (many : Int) (h : List (Int × Int × List ByteArray)) (i : Int) (x : Int × Int × List ByteArray) (t15 : List (Int × Int × List ByteArray)) (t16 : Int) (t17 : Int) : impl_goodHunks.l17 many h i x t15 t16 t17 =
  (bif (decide (i > 0)) then (bif ((decide (0 ≤ (w64 (i - 1)))) && (decide ((w64 (i - 1)) < (h.length : Int)))) then (bif ((decide (0 ≤ (w64 (i - 1)))) && (decide ((w64 (i - 1)) < (h.length : Int)))) then (bif (decide (x.1 ≤ (w64 ((h.getD ((w64 (i - 1))).toNat (0, 0, ([] : List ByteArray))).1 + (h.getD ((w64 (i - 1))).toNat (0, 0, ([] : List ByteArray))).2.1)))) then (some false) else
     (impl_goodHunks.l8 many h t15 t16 (w64 (t17 + 1)))) else none) else none) else
  (impl_goodHunks.l8 many h t15 t16 (w64 (t17 + 1)))) :=
  (fixP_eq impl_goodHunks.E impl_goodHunks.T impl_goodHunks.C impl_goodHunks.K 17 impl_goodHunks.D17 (many, h, i, x, t15, t16, t17)).trans (by kernel_rfl)
theorem impl_goodHunks.f_eq (many : Int) (h : List (Int × Int × List ByteArray)) : impl_goodHunks.f many h =
  ((impl_in.f many 0 40).bind fun y1 =>
  bif (!y1) then (some false) else
  (bif (decide ((h.length : Int) > 20)) then (some false) else
   (impl_goodHunks.l7 many h))) := by kernel_rfl
noncomputable def impl_goodHunks.S : Abs.Sum := ⟨impl_goodHunks.P, impl_goodHunks.R, fun _ => Fn impl_goodHunks.E impl_goodHunks.T impl_goodHunks.C impl_goodHunks.P impl_goodHunks.R impl_goodHunks.X⟩
theorem impl_goodHunks.meets : Meets Try.prog 83 impl_goodHunks.S := meets_tab (S := impl_goodHunks.U) tabOk_all (AllMeets.cons impl_in.meets (AllMeets.cons impl_areLines.meets AllMeets.nil)) (AllStill.cons (fun _ _ _ => rfl) (AllStill.cons (fun _ _ _ => rfl) AllStill.nil)) follows (by kernel_rfl : Try.prog.funcs[83]? = some Try.f83) (by kernel_rfl) (by kernel_rfl) (by kernel_rfl)
noncomputable def impl_DiffHunks.C : Code := Try.f56.body.getD .skip
def impl_DiffHunks.P : Par := (.cons (.val (.list .str)) (.cons (.val (.list .str)) .nil))
noncomputable def impl_DiffHunks.U : SumTab := [(37, [], impl_goodLines.S), (82, [], impl_diff.S), (83, [], impl_goodHunks.S)]
noncomputable def impl_DiffHunks.E : Env := mkEnv TY AR impl_DiffHunks.U
def impl_DiffHunks.D7 : CutD := ⟨[0, 1], (.cons (.val (.list .str)) (.cons (.val (.list .str)) .nil))⟩
noncomputable def impl_DiffHunks.T : Tab := fun k => look k [(7, impl_DiffHunks.D7)]
def impl_DiffHunks.R : List (Nat × Ty) := [(9, .list (.pair (.int .i64) (.pair (.int .i64) (.one (.list .str))))), (0, .bool)]
def impl_DiffHunks.X : List ResultVar := [.tmp 4, .tmp 5]
noncomputable def impl_DiffHunks.K := fin impl_DiffHunks.E ⟨impl_DiffHunks.P, impl_DiffHunks.R, fun _ _ => none⟩ impl_DiffHunks.X impl_DiffHunks.P.len 0
noncomputable def impl_DiffHunks.l7 (a : List ByteArray) (b : List ByteArray) : Option ((List (Int × Int × List ByteArray)) × Bool) := fixP impl_DiffHunks.E impl_DiffHunks.T impl_DiffHunks.C impl_DiffHunks.K 7 impl_DiffHunks.D7 (a, b)
noncomputable def impl_DiffHunks.f (a : List ByteArray) (b : List ByteArray) : Option ((List (Int × Int × List ByteArray)) × Bool) := Fn impl_DiffHunks.E impl_DiffHunks.T impl_DiffHunks.C impl_DiffHunks.P impl_DiffHunks.R impl_DiffHunks.X (a, b)
theorem impl_DiffHunks.l7_eq (a : List ByteArray) (b : List ByteArray) : impl_DiffHunks.l7 a b =
  ((impl_diff.f a b).bind fun y1 =>
  (impl_goodHunks.f (a.length : Int) y1).bind fun y2 =>
  bif (!y2) then (some (([] : List (Int × Int × List ByteArray)), false)) else (some (y1, true))) :=
  (fixP_eq impl_DiffHunks.E impl_DiffHunks.T impl_DiffHunks.C impl_DiffHunks.K 7 impl_DiffHunks.D7 (a, b)).trans (by kernel_rfl)
theorem impl_DiffHunks.f_eq (a : List ByteArray) (b : List ByteArray) : impl_DiffHunks.f a b =
  ((impl_goodLines.f a).bind fun y1 =>
  bif (!y1) then (some (([] : List (Int × Int × List ByteArray)), false)) else
  ((impl_goodLines.f b).bind fun y2 =>
   bif (!y2) then (some (([] : List (Int × Int × List ByteArray)), false)) else
   (impl_DiffHunks.l7 a b))) := by kernel_rfl
noncomputable def impl_DiffHunks.S : Abs.Sum := ⟨impl_DiffHunks.P, impl_DiffHunks.R, fun _ => Fn impl_DiffHunks.E impl_DiffHunks.T impl_DiffHunks.C impl_DiffHunks.P impl_DiffHunks.R impl_DiffHunks.X⟩
theorem impl_DiffHunks.meets : Meets Try.prog 56 impl_DiffHunks.S := meets_tab (S := impl_DiffHunks.U) tabOk_all (AllMeets.cons impl_goodLines.meets (AllMeets.cons impl_diff.meets (AllMeets.cons impl_goodHunks.meets AllMeets.nil))) (AllStill.cons (fun _ _ _ => rfl) (AllStill.cons (fun _ _ _ => rfl) (AllStill.cons (fun _ _ _ => rfl) AllStill.nil))) follows (by kernel_rfl : Try.prog.funcs[56]? = some Try.f56) (by kernel_rfl) (by kernel_rfl) (by kernel_rfl)
noncomputable def impl_OrdersHunks.C : Code := Try.f22.body.getD .skip
def impl_OrdersHunks.P : Par := (.cons (.val (.list .str)) (.cons (.val (.list (.pair (.int .i64) (.pair (.int .i64) (.pair (.int .i64) (.one (.list .str))))))) .nil))
noncomputable def impl_OrdersHunks.U : SumTab := [(54, [], impl_RunOrders.S), (55, [], impl_isWhole.S), (56, [], impl_DiffHunks.S)]
noncomputable def impl_OrdersHunks.E : Env := mkEnv TY AR impl_OrdersHunks.U
def impl_OrdersHunks.D9 : CutD := ⟨[0, 7, 8], (.cons (.val (.list .str)) (.cons (.own 8 .str) (.cons (.val (.int .i64)) .nil)))⟩
noncomputable def impl_OrdersHunks.T : Tab := fun k => look k [(9, impl_OrdersHunks.D9)]
def impl_OrdersHunks.R : List (Nat × Ty) := [(9, .list (.pair (.int .i64) (.pair (.int .i64) (.one (.list .str))))), (0, .int .i64), (0, .bool)]
def impl_OrdersHunks.X : List ResultVar := [.tmp 4, .tmp 5, .tmp 6]
noncomputable def impl_OrdersHunks.K := fin impl_OrdersHunks.E ⟨impl_OrdersHunks.P, impl_OrdersHunks.R, fun _ _ => none⟩ impl_OrdersHunks.X impl_OrdersHunks.P.len 0
noncomputable def impl_OrdersHunks.l9 (l : List ByteArray) (b : List ByteArray) (code : Int) : Option ((List (Int × Int × List ByteArray)) × Int × Bool) := fixP impl_OrdersHunks.E impl_OrdersHunks.T impl_OrdersHunks.C impl_OrdersHunks.K 9 impl_OrdersHunks.D9 (l, b, code)
noncomputable def impl_OrdersHunks.f (l : List ByteArray) (o : List (Int × Int × Int × List ByteArray)) : Option ((List (Int × Int × List ByteArray)) × Int × Bool) := Fn impl_OrdersHunks.E impl_OrdersHunks.T impl_OrdersHunks.C impl_OrdersHunks.P impl_OrdersHunks.R impl_OrdersHunks.X (l, o)
theorem impl_OrdersHunks.l9_eq (l : List ByteArray) (b : List ByteArray) (code : Int) : impl_OrdersHunks.l9 l b code =
  (bif (!(decide (code = 0))) then (some (([] : List (Int × Int × List ByteArray)), code, true)) else
  ((impl_DiffHunks.f l b).bind fun y1 =>
   some (y1.1, 0, true))) :=
  (fixP_eq impl_OrdersHunks.E impl_OrdersHunks.T impl_OrdersHunks.C impl_OrdersHunks.K 9 impl_OrdersHunks.D9 (l, b, code)).trans (by kernel_rfl)
theorem impl_OrdersHunks.f_eq (l : List ByteArray) (o : List (Int × Int × Int × List ByteArray)) : impl_OrdersHunks.f l o =
  ((impl_RunOrders.f l o).bind fun y1 =>
  bif (!y1.2.2) then (some (([] : List (Int × Int × List ByteArray)), 0, false)) else
  ((impl_isWhole.f l).bind fun y2 =>
   bif (!y2) then (some (([] : List (Int × Int × List ByteArray)), 0, false)) else
   (impl_OrdersHunks.l9 l y1.1 y1.2.1))) := by kernel_rfl
noncomputable def impl_OrdersHunks.S : Abs.Sum := ⟨impl_OrdersHunks.P, impl_OrdersHunks.R, fun _ => Fn impl_OrdersHunks.E impl_OrdersHunks.T impl_OrdersHunks.C impl_OrdersHunks.P impl_OrdersHunks.R impl_OrdersHunks.X⟩
theorem impl_OrdersHunks.meets : Meets Try.prog 22 impl_OrdersHunks.S := meets_tab (S := impl_OrdersHunks.U) tabOk_all (AllMeets.cons impl_RunOrders.meets (AllMeets.cons impl_isWhole.meets (AllMeets.cons impl_DiffHunks.meets AllMeets.nil))) (AllStill.cons (fun _ _ _ => rfl) (AllStill.cons (fun _ _ _ => rfl) (AllStill.cons (fun _ _ _ => rfl) AllStill.nil))) follows (by kernel_rfl : Try.prog.funcs[22]? = some Try.f22) (by kernel_rfl) (by kernel_rfl) (by kernel_rfl)
noncomputable def laws_eqHunk.C : Code := Try.f57.body.getD .skip
def laws_eqHunk.P : Par := (.cons (.val (.pair (.int .i64) (.pair (.int .i64) (.one (.list .str))))) (.cons (.val (.pair (.int .i64) (.pair (.int .i64) (.one (.list .str))))) .nil))
noncomputable def laws_eqHunk.U : SumTab := [(11, [], laws_eqStringS.S)]
noncomputable def laws_eqHunk.E : Env := mkEnv TY AR laws_eqHunk.U
noncomputable def laws_eqHunk.T : Tab := fun k => look k []
def laws_eqHunk.R : List (Nat × Ty) := [(0, .bool)]
def laws_eqHunk.X : List ResultVar := [.tmp 4]
noncomputable def laws_eqHunk.f (a : Int × Int × List ByteArray) (b : Int × Int × List ByteArray) : Option (Bool) := Fn laws_eqHunk.E laws_eqHunk.T laws_eqHunk.C laws_eqHunk.P laws_eqHunk.R laws_eqHunk.X (a, b)
theorem laws_eqHunk.f_eq (a : Int × Int × List ByteArray) (b : Int × Int × List ByteArray) : laws_eqHunk.f a b =
  (bif (!(decide (a.1 = b.1))) then (some false) else
  (bif (!(decide (a.2.1 = b.2.1))) then (some false) else
   ((laws_eqStringS.f a.2.2 b.2.2).bind fun y1 =>
    bif (!y1) then (some false) else (some true)))) := by kernel_rfl
noncomputable def laws_eqHunk.S : Abs.Sum := ⟨laws_eqHunk.P, laws_eqHunk.R, fun _ => Fn laws_eqHunk.E laws_eqHunk.T laws_eqHunk.C laws_eqHunk.P laws_eqHunk.R laws_eqHunk.X⟩
theorem laws_eqHunk.meets : Meets Try.prog 57 laws_eqHunk.S := meets_tab (S := laws_eqHunk.U) tabOk_all (AllMeets.cons laws_eqStringS.meets AllMeets.nil) (AllStill.cons (fun _ _ _ => rfl) AllStill.nil) follows (by kernel_rfl : Try.prog.funcs[57]? = some Try.f57) (by kernel_rfl) (by kernel_rfl) (by kernel_rfl)
noncomputable def laws_eqHunkS.C : Code := Try.f23.body.getD .skip
def laws_eqHunkS.P : Par := (.cons (.val (.list (.pair (.int .i64) (.pair (.int .i64) (.one (.list .str)))))) (.cons (.val (.list (.pair (.int .i64) (.pair (.int .i64) (.one (.list .str)))))) .nil))
noncomputable def laws_eqHunkS.U : SumTab := [(57, [], laws_eqHunk.S)]
noncomputable def laws_eqHunkS.E : Env := mkEnv TY AR laws_eqHunkS.U
def laws_eqHunkS.D8 : CutD := ⟨[0, 1, 5], (.cons (.val (.list (.pair (.int .i64) (.pair (.int .i64) (.one (.list .str)))))) (.cons (.val (.list (.pair (.int .i64) (.pair (.int .i64) (.one (.list .str)))))) (.cons (.val (.int .i64)) .nil)))⟩
noncomputable def laws_eqHunkS.T : Tab := fun k => look k [(8, laws_eqHunkS.D8)]
def laws_eqHunkS.R : List (Nat × Ty) := [(0, .bool)]
def laws_eqHunkS.X : List ResultVar := [.tmp 4]
noncomputable def laws_eqHunkS.K := fin laws_eqHunkS.E ⟨laws_eqHunkS.P, laws_eqHunkS.R, fun _ _ => none⟩ laws_eqHunkS.X laws_eqHunkS.P.len 0
noncomputable def laws_eqHunkS.l8 (a : List (Int × Int × List ByteArray)) (b : List (Int × Int × List ByteArray)) (i : Int) : Option (Bool) := fixP laws_eqHunkS.E laws_eqHunkS.T laws_eqHunkS.C laws_eqHunkS.K 8 laws_eqHunkS.D8 (a, b, i)
noncomputable def laws_eqHunkS.f (a : List (Int × Int × List ByteArray)) (b : List (Int × Int × List ByteArray)) : Option (Bool) := Fn laws_eqHunkS.E laws_eqHunkS.T laws_eqHunkS.C laws_eqHunkS.P laws_eqHunkS.R laws_eqHunkS.X (a, b)
theorem laws_eqHunkS.l8_eq (a : List (Int × Int × List ByteArray)) (b : List (Int × Int × List ByteArray)) (i : Int) : laws_eqHunkS.l8 a b i =
  (bif (decide (i < (a.length : Int))) then (bif ((decide (0 ≤ i)) && (decide (i < (a.length : Int)))) then (bif ((decide (0 ≤ i)) && (decide (i < (b.length : Int)))) then ((laws_eqHunk.f (a.getD (i).toNat (0, 0, ([] : List ByteArray))) (b.getD (i).toNat (0, 0, ([] : List ByteArray)))).bind fun y1 =>
     bif (!y1) then (some false) else
     (laws_eqHunkS.l8 a b (w64 (i + 1)))) else none) else none) else (some true)) :=
  (fixP_eq laws_eqHunkS.E laws_eqHunkS.T laws_eqHunkS.C laws_eqHunkS.K 8 laws_eqHunkS.D8 (a, b, i)).trans (by kernel_rfl)
theorem laws_eqHunkS.f_eq (a : List (Int × Int × List ByteArray)) (b : List (Int × Int × List ByteArray)) : laws_eqHunkS.f a b =
  (bif (!(decide ((a.length : Int) = (b.length : Int)))) then (some false) else
  (laws_eqHunkS.l8 a b 0)) := by kernel_rfl
noncomputable def laws_eqHunkS.S : Abs.Sum := ⟨laws_eqHunkS.P, laws_eqHunkS.R, fun _ => Fn laws_eqHunkS.E laws_eqHunkS.T laws_eqHunkS.C laws_eqHunkS.P laws_eqHunkS.R laws_eqHunkS.X⟩
theorem laws_eqHunkS.meets : Meets Try.prog 23 laws_eqHunkS.S := meets_tab (S := laws_eqHunkS.U) tabOk_all (AllMeets.cons laws_eqHunk.meets AllMeets.nil) (AllStill.cons (fun _ _ _ => rfl) AllStill.nil) follows (by kernel_rfl : Try.prog.funcs[23]? = some Try.f23) (by kernel_rfl) (by kernel_rfl) (by kernel_rfl)
noncomputable def laws_eqOrder.C : Code := Try.f58.body.getD .skip
def laws_eqOrder.P : Par := (.cons (.val (.pair (.int .i64) (.pair (.int .i64) (.pair (.int .i64) (.one (.list .str)))))) (.cons (.val (.pair (.int .i64) (.pair (.int .i64) (.pair (.int .i64) (.one (.list .str)))))) .nil))
noncomputable def laws_eqOrder.U : SumTab := [(11, [], laws_eqStringS.S)]
noncomputable def laws_eqOrder.E : Env := mkEnv TY AR laws_eqOrder.U
noncomputable def laws_eqOrder.T : Tab := fun k => look k []
def laws_eqOrder.R : List (Nat × Ty) := [(0, .bool)]
def laws_eqOrder.X : List ResultVar := [.tmp 4]
noncomputable def laws_eqOrder.f (a : Int × Int × Int × List ByteArray) (b : Int × Int × Int × List ByteArray) : Option (Bool) := Fn laws_eqOrder.E laws_eqOrder.T laws_eqOrder.C laws_eqOrder.P laws_eqOrder.R laws_eqOrder.X (a, b)
theorem laws_eqOrder.f_eq (a : Int × Int × Int × List ByteArray) (b : Int × Int × Int × List ByteArray) : laws_eqOrder.f a b =
  (bif (!(decide (a.1 = b.1))) then (some false) else
  (bif (!(decide (a.2.1 = b.2.1))) then (some false) else
   (bif (!(decide (a.2.2.1 = b.2.2.1))) then (some false) else
    ((laws_eqStringS.f a.2.2.2 b.2.2.2).bind fun y1 =>
     bif (!y1) then (some false) else (some true))))) := by kernel_rfl
noncomputable def laws_eqOrder.S : Abs.Sum := ⟨laws_eqOrder.P, laws_eqOrder.R, fun _ => Fn laws_eqOrder.E laws_eqOrder.T laws_eqOrder.C laws_eqOrder.P laws_eqOrder.R laws_eqOrder.X⟩
theorem laws_eqOrder.meets : Meets Try.prog 58 laws_eqOrder.S := meets_tab (S := laws_eqOrder.U) tabOk_all (AllMeets.cons laws_eqStringS.meets AllMeets.nil) (AllStill.cons (fun _ _ _ => rfl) AllStill.nil) follows (by kernel_rfl : Try.prog.funcs[58]? = some Try.f58) (by kernel_rfl) (by kernel_rfl) (by kernel_rfl)
noncomputable def laws_eqOrderS.C : Code := Try.f24.body.getD .skip
def laws_eqOrderS.P : Par := (.cons (.val (.list (.pair (.int .i64) (.pair (.int .i64) (.pair (.int .i64) (.one (.list .str))))))) (.cons (.val (.list (.pair (.int .i64) (.pair (.int .i64) (.pair (.int .i64) (.one (.list .str))))))) .nil))
noncomputable def laws_eqOrderS.U : SumTab := [(58, [], laws_eqOrder.S)]
noncomputable def laws_eqOrderS.E : Env := mkEnv TY AR laws_eqOrderS.U
def laws_eqOrderS.D8 : CutD := ⟨[0, 1, 5], (.cons (.val (.list (.pair (.int .i64) (.pair (.int .i64) (.pair (.int .i64) (.one (.list .str))))))) (.cons (.val (.list (.pair (.int .i64) (.pair (.int .i64) (.pair (.int .i64) (.one (.list .str))))))) (.cons (.val (.int .i64)) .nil)))⟩
noncomputable def laws_eqOrderS.T : Tab := fun k => look k [(8, laws_eqOrderS.D8)]
def laws_eqOrderS.R : List (Nat × Ty) := [(0, .bool)]
def laws_eqOrderS.X : List ResultVar := [.tmp 4]
noncomputable def laws_eqOrderS.K := fin laws_eqOrderS.E ⟨laws_eqOrderS.P, laws_eqOrderS.R, fun _ _ => none⟩ laws_eqOrderS.X laws_eqOrderS.P.len 0
noncomputable def laws_eqOrderS.l8 (a : List (Int × Int × Int × List ByteArray)) (b : List (Int × Int × Int × List ByteArray)) (i : Int) : Option (Bool) := fixP laws_eqOrderS.E laws_eqOrderS.T laws_eqOrderS.C laws_eqOrderS.K 8 laws_eqOrderS.D8 (a, b, i)
noncomputable def laws_eqOrderS.f (a : List (Int × Int × Int × List ByteArray)) (b : List (Int × Int × Int × List ByteArray)) : Option (Bool) := Fn laws_eqOrderS.E laws_eqOrderS.T laws_eqOrderS.C laws_eqOrderS.P laws_eqOrderS.R laws_eqOrderS.X (a, b)
theorem laws_eqOrderS.l8_eq (a : List (Int × Int × Int × List ByteArray)) (b : List (Int × Int × Int × List ByteArray)) (i : Int) : laws_eqOrderS.l8 a b i =
  (bif (decide (i < (a.length : Int))) then (bif ((decide (0 ≤ i)) && (decide (i < (a.length : Int)))) then (bif ((decide (0 ≤ i)) && (decide (i < (b.length : Int)))) then ((laws_eqOrder.f (a.getD (i).toNat (0, 0, 0, ([] : List ByteArray))) (b.getD (i).toNat (0, 0, 0, ([] : List ByteArray)))).bind fun y1 =>
     bif (!y1) then (some false) else
     (laws_eqOrderS.l8 a b (w64 (i + 1)))) else none) else none) else (some true)) :=
  (fixP_eq laws_eqOrderS.E laws_eqOrderS.T laws_eqOrderS.C laws_eqOrderS.K 8 laws_eqOrderS.D8 (a, b, i)).trans (by kernel_rfl)
theorem laws_eqOrderS.f_eq (a : List (Int × Int × Int × List ByteArray)) (b : List (Int × Int × Int × List ByteArray)) : laws_eqOrderS.f a b =
  (bif (!(decide ((a.length : Int) = (b.length : Int)))) then (some false) else
  (laws_eqOrderS.l8 a b 0)) := by kernel_rfl
noncomputable def laws_eqOrderS.S : Abs.Sum := ⟨laws_eqOrderS.P, laws_eqOrderS.R, fun _ => Fn laws_eqOrderS.E laws_eqOrderS.T laws_eqOrderS.C laws_eqOrderS.P laws_eqOrderS.R laws_eqOrderS.X⟩
theorem laws_eqOrderS.meets : Meets Try.prog 24 laws_eqOrderS.S := meets_tab (S := laws_eqOrderS.U) tabOk_all (AllMeets.cons laws_eqOrder.meets AllMeets.nil) (AllStill.cons (fun _ _ _ => rfl) AllStill.nil) follows (by kernel_rfl : Try.prog.funcs[24]? = some Try.f24) (by kernel_rfl) (by kernel_rfl) (by kernel_rfl)
noncomputable def laws_markOrderS.C : Code := Try.f25.body.getD .skip
def laws_markOrderS.P : Par := (.cons (.io 9 (.pair (.int .i64) (.pair (.int .i64) (.pair (.int .i64) (.one (.list .str)))))) (.cons (.val (.int .i64)) .nil))
noncomputable def laws_markOrderS.U : SumTab := [(14, [], laws_markStringS.S)]
noncomputable def laws_markOrderS.E : Env := mkEnv TY AR laws_markOrderS.U
def laws_markOrderS.D4 : CutD := ⟨[0, 1, 5], (.cons (.own 9 (.pair (.int .i64) (.pair (.int .i64) (.pair (.int .i64) (.one (.list .str)))))) (.cons (.val (.int .i64)) (.cons (.val (.int .i64)) .nil)))⟩
noncomputable def laws_markOrderS.T : Tab := fun k => look k [(4, laws_markOrderS.D4)]
def laws_markOrderS.R : List (Nat × Ty) := [(0, .int .i64)]
def laws_markOrderS.X : List ResultVar := [.tmp 4]
noncomputable def laws_markOrderS.K := fin laws_markOrderS.E ⟨laws_markOrderS.P, laws_markOrderS.R, fun _ _ => none⟩ laws_markOrderS.X laws_markOrderS.P.len 0
noncomputable def laws_markOrderS.l4 (a : List (Int × Int × Int × List ByteArray)) (k : Int) (i : Int) : Option (Int × (List (Int × Int × Int × List ByteArray))) := fixP laws_markOrderS.E laws_markOrderS.T laws_markOrderS.C laws_markOrderS.K 4 laws_markOrderS.D4 (a, k, i)
noncomputable def laws_markOrderS.f (a : List (Int × Int × Int × List ByteArray)) (k : Int) : Option (Int × (List (Int × Int × Int × List ByteArray))) := Fn laws_markOrderS.E laws_markOrderS.T laws_markOrderS.C laws_markOrderS.P laws_markOrderS.R laws_markOrderS.X (a, k)
theorem laws_markOrderS.l4_eq (a : List (Int × Int × Int × List ByteArray)) (k : Int) (i : Int) : laws_markOrderS.l4 a k i =
  (bif (decide (i < (a.length : Int))) then (bif ((decide (0 ≤ i)) && (decide (i < (a.length : Int)))) then (bif ((decide (0 ≤ i)) && (decide (i < ((a.set (i).toNat (k, (a.getD (i).toNat (0, 0, 0, ([] : List ByteArray))).2)).length : Int)))) then (bif ((decide (0 ≤ i)) && (decide (i < (((a.set (i).toNat (k, (a.getD (i).toNat (0, 0, 0, ([] : List ByteArray))).2)).set (i).toNat (((a.set (i).toNat (k, (a.getD (i).toNat (0, 0, 0, ([] : List ByteArray))).2)).getD (i).toNat (0, 0, 0, ([] : List ByteArray))).1, (w64 (k + 1)), ((a.set (i).toNat (k, (a.getD (i).toNat (0, 0, 0, ([] : List ByteArray))).2)).getD (i).toNat (0, 0, 0, ([] : List ByteArray))).2.2)).length : Int)))) then (bif ((decide (0 ≤ i)) && (decide (i < ((((a.set (i).toNat (k, (a.getD (i).toNat (0, 0, 0, ([] : List ByteArray))).2)).set (i).toNat (((a.set (i).toNat (k, (a.getD (i).toNat (0, 0, 0, ([] : List ByteArray))).2)).getD (i).toNat (0, 0, 0, ([] : List ByteArray))).1, (w64 (k + 1)), ((a.set (i).toNat (k, (a.getD (i).toNat (0, 0, 0, ([] : List ByteArray))).2)).getD (i).toNat (0, 0, 0, ([] : List ByteArray))).2.2)).set (i).toNat ((((a.set (i).toNat (k, (a.getD (i).toNat (0, 0, 0, ([] : List ByteArray))).2)).set (i).toNat (((a.set (i).toNat (k, (a.getD (i).toNat (0, 0, 0, ([] : List ByteArray))).2)).getD (i).toNat (0, 0, 0, ([] : List ByteArray))).1, (w64 (k + 1)), ((a.set (i).toNat (k, (a.getD (i).toNat (0, 0, 0, ([] : List ByteArray))).2)).getD (i).toNat (0, 0, 0, ([] : List ByteArray))).2.2)).getD (i).toNat (0, 0, 0, ([] : List ByteArray))).1, (((a.set (i).toNat (k, (a.getD (i).toNat (0, 0, 0, ([] : List ByteArray))).2)).set (i).toNat (((a.set (i).toNat (k, (a.getD (i).toNat (0, 0, 0, ([] : List ByteArray))).2)).getD (i).toNat (0, 0, 0, ([] : List ByteArray))).1, (w64 (k + 1)), ((a.set (i).toNat (k, (a.getD (i).toNat (0, 0, 0, ([] : List ByteArray))).2)).getD (i).toNat (0, 0, 0, ([] : List ByteArray))).2.2)).getD (i).toNat (0, 0, 0, ([] : List ByteArray))).2.1, (w64 ((w64 (k + 1)) + 1)), (((a.set (i).toNat (k, (a.getD (i).toNat (0, 0, 0, ([] : List ByteArray))).2)).set (i).toNat (((a.set (i).toNat (k, (a.getD (i).toNat (0, 0, 0, ([] : List ByteArray))).2)).getD (i).toNat (0, 0, 0, ([] : List ByteArray))).1, (w64 (k + 1)), ((a.set (i).toNat (k, (a.getD (i).toNat (0, 0, 0, ([] : List ByteArray))).2)).getD (i).toNat (0, 0, 0, ([] : List ByteArray))).2.2)).getD (i).toNat (0, 0, 0, ([] : List ByteArray))).2.2.2)).length : Int)))) then ((laws_markStringS.f ((((a.set (i).toNat (k, (a.getD (i).toNat (0, 0, 0, ([] : List ByteArray))).2)).set (i).toNat (((a.set (i).toNat (k, (a.getD (i).toNat (0, 0, 0, ([] : List ByteArray))).2)).getD (i).toNat (0, 0, 0, ([] : List ByteArray))).1, (w64 (k + 1)), ((a.set (i).toNat (k, (a.getD (i).toNat (0, 0, 0, ([] : List ByteArray))).2)).getD (i).toNat (0, 0, 0, ([] : List ByteArray))).2.2)).set (i).toNat ((((a.set (i).toNat (k, (a.getD (i).toNat (0, 0, 0, ([] : List ByteArray))).2)).set (i).toNat (((a.set (i).toNat (k, (a.getD (i).toNat (0, 0, 0, ([] : List ByteArray))).2)).getD (i).toNat (0, 0, 0, ([] : List ByteArray))).1, (w64 (k + 1)), ((a.set (i).toNat (k, (a.getD (i).toNat (0, 0, 0, ([] : List ByteArray))).2)).getD (i).toNat (0, 0, 0, ([] : List ByteArray))).2.2)).getD (i).toNat (0, 0, 0, ([] : List ByteArray))).1, (((a.set (i).toNat (k, (a.getD (i).toNat (0, 0, 0, ([] : List ByteArray))).2)).set (i).toNat (((a.set (i).toNat (k, (a.getD (i).toNat (0, 0, 0, ([] : List ByteArray))).2)).getD (i).toNat (0, 0, 0, ([] : List ByteArray))).1, (w64 (k + 1)), ((a.set (i).toNat (k, (a.getD (i).toNat (0, 0, 0, ([] : List ByteArray))).2)).getD (i).toNat (0, 0, 0, ([] : List ByteArray))).2.2)).getD (i).toNat (0, 0, 0, ([] : List ByteArray))).2.1, (w64 ((w64 (k + 1)) + 1)), (((a.set (i).toNat (k, (a.getD (i).toNat (0, 0, 0, ([] : List ByteArray))).2)).set (i).toNat (((a.set (i).toNat (k, (a.getD (i).toNat (0, 0, 0, ([] : List ByteArray))).2)).getD (i).toNat (0, 0, 0, ([] : List ByteArray))).1, (w64 (k + 1)), ((a.set (i).toNat (k, (a.getD (i).toNat (0, 0, 0, ([] : List ByteArray))).2)).getD (i).toNat (0, 0, 0, ([] : List ByteArray))).2.2)).getD (i).toNat (0, 0, 0, ([] : List ByteArray))).2.2.2)).getD (i).toNat (0, 0, 0, ([] : List ByteArray))).2.2.2 (w64 ((w64 ((w64 (k + 1)) + 1)) + 1))).bind fun y1 =>
       laws_markOrderS.l4 ((((a.set (i).toNat (k, (a.getD (i).toNat (0, 0, 0, ([] : List ByteArray))).2)).set (i).toNat (((a.set (i).toNat (k, (a.getD (i).toNat (0, 0, 0, ([] : List ByteArray))).2)).getD (i).toNat (0, 0, 0, ([] : List ByteArray))).1, (w64 (k + 1)), ((a.set (i).toNat (k, (a.getD (i).toNat (0, 0, 0, ([] : List ByteArray))).2)).getD (i).toNat (0, 0, 0, ([] : List ByteArray))).2.2)).set (i).toNat ((((a.set (i).toNat (k, (a.getD (i).toNat (0, 0, 0, ([] : List ByteArray))).2)).set (i).toNat (((a.set (i).toNat (k, (a.getD (i).toNat (0, 0, 0, ([] : List ByteArray))).2)).getD (i).toNat (0, 0, 0, ([] : List ByteArray))).1, (w64 (k + 1)), ((a.set (i).toNat (k, (a.getD (i).toNat (0, 0, 0, ([] : List ByteArray))).2)).getD (i).toNat (0, 0, 0, ([] : List ByteArray))).2.2)).getD (i).toNat (0, 0, 0, ([] : List ByteArray))).1, (((a.set (i).toNat (k, (a.getD (i).toNat (0, 0, 0, ([] : List ByteArray))).2)).set (i).toNat (((a.set (i).toNat (k, (a.getD (i).toNat (0, 0, 0, ([] : List ByteArray))).2)).getD (i).toNat (0, 0, 0, ([] : List ByteArray))).1, (w64 (k + 1)), ((a.set (i).toNat (k, (a.getD (i).toNat (0, 0, 0, ([] : List ByteArray))).2)).getD (i).toNat (0, 0, 0, ([] : List ByteArray))).2.2)).getD (i).toNat (0, 0, 0, ([] : List ByteArray))).2.1, (w64 ((w64 (k + 1)) + 1)), (((a.set (i).toNat (k, (a.getD (i).toNat (0, 0, 0, ([] : List ByteArray))).2)).set (i).toNat (((a.set (i).toNat (k, (a.getD (i).toNat (0, 0, 0, ([] : List ByteArray))).2)).getD (i).toNat (0, 0, 0, ([] : List ByteArray))).1, (w64 (k + 1)), ((a.set (i).toNat (k, (a.getD (i).toNat (0, 0, 0, ([] : List ByteArray))).2)).getD (i).toNat (0, 0, 0, ([] : List ByteArray))).2.2)).getD (i).toNat (0, 0, 0, ([] : List ByteArray))).2.2.2)).set (i).toNat (((((a.set (i).toNat (k, (a.getD (i).toNat (0, 0, 0, ([] : List ByteArray))).2)).set (i).toNat (((a.set (i).toNat (k, (a.getD (i).toNat (0, 0, 0, ([] : List ByteArray))).2)).getD (i).toNat (0, 0, 0, ([] : List ByteArray))).1, (w64 (k + 1)), ((a.set (i).toNat (k, (a.getD (i).toNat (0, 0, 0, ([] : List ByteArray))).2)).getD (i).toNat (0, 0, 0, ([] : List ByteArray))).2.2)).set (i).toNat ((((a.set (i).toNat (k, (a.getD (i).toNat (0, 0, 0, ([] : List ByteArray))).2)).set (i).toNat (((a.set (i).toNat (k, (a.getD (i).toNat (0, 0, 0, ([] : List ByteArray))).2)).getD (i).toNat (0, 0, 0, ([] : List ByteArray))).1, (w64 (k + 1)), ((a.set (i).toNat (k, (a.getD (i).toNat (0, 0, 0, ([] : List ByteArray))).2)).getD (i).toNat (0, 0, 0, ([] : List ByteArray))).2.2)).getD (i).toNat (0, 0, 0, ([] : List ByteArray))).1, (((a.set (i).toNat (k, (a.getD (i).toNat (0, 0, 0, ([] : List ByteArray))).2)).set (i).toNat (((a.set (i).toNat (k, (a.getD (i).toNat (0, 0, 0, ([] : List ByteArray))).2)).getD (i).toNat (0, 0, 0, ([] : List ByteArray))).1, (w64 (k + 1)), ((a.set (i).toNat (k, (a.getD (i).toNat (0, 0, 0, ([] : List ByteArray))).2)).getD (i).toNat (0, 0, 0, ([] : List ByteArray))).2.2)).getD (i).toNat (0, 0, 0, ([] : List ByteArray))).2.1, (w64 ((w64 (k + 1)) + 1)), (((a.set (i).toNat (k, (a.getD (i).toNat (0, 0, 0, ([] : List ByteArray))).2)).set (i).toNat (((a.set (i).toNat (k, (a.getD (i).toNat (0, 0, 0, ([] : List ByteArray))).2)).getD (i).toNat (0, 0, 0, ([] : List ByteArray))).1, (w64 (k + 1)), ((a.set (i).toNat (k, (a.getD (i).toNat (0, 0, 0, ([] : List ByteArray))).2)).getD (i).toNat (0, 0, 0, ([] : List ByteArray))).2.2)).getD (i).toNat (0, 0, 0, ([] : List ByteArray))).2.2.2)).getD (i).toNat (0, 0, 0, ([] : List ByteArray))).1, ((((a.set (i).toNat (k, (a.getD (i).toNat (0, 0, 0, ([] : List ByteArray))).2)).set (i).toNat (((a.set (i).toNat (k, (a.getD (i).toNat (0, 0, 0, ([] : List ByteArray))).2)).getD (i).toNat (0, 0, 0, ([] : List ByteArray))).1, (w64 (k + 1)), ((a.set (i).toNat (k, (a.getD (i).toNat (0, 0, 0, ([] : List ByteArray))).2)).getD (i).toNat (0, 0, 0, ([] : List ByteArray))).2.2)).set (i).toNat ((((a.set (i).toNat (k, (a.getD (i).toNat (0, 0, 0, ([] : List ByteArray))).2)).set (i).toNat (((a.set (i).toNat (k, (a.getD (i).toNat (0, 0, 0, ([] : List ByteArray))).2)).getD (i).toNat (0, 0, 0, ([] : List ByteArray))).1, (w64 (k + 1)), ((a.set (i).toNat (k, (a.getD (i).toNat (0, 0, 0, ([] : List ByteArray))).2)).getD (i).toNat (0, 0, 0, ([] : List ByteArray))).2.2)).getD (i).toNat (0, 0, 0, ([] : List ByteArray))).1, (((a.set (i).toNat (k, (a.getD (i).toNat (0, 0, 0, ([] : List ByteArray))).2)).set (i).toNat (((a.set (i).toNat (k, (a.getD (i).toNat (0, 0, 0, ([] : List ByteArray))).2)).getD (i).toNat (0, 0, 0, ([] : List ByteArray))).1, (w64 (k + 1)), ((a.set (i).toNat (k, (a.getD (i).toNat (0, 0, 0, ([] : List ByteArray))).2)).getD (i).toNat (0, 0, 0, ([] : List ByteArray))).2.2)).getD (i).toNat (0, 0, 0, ([] : List ByteArray))).2.1, (w64 ((w64 (k + 1)) + 1)), (((a.set (i).toNat (k, (a.getD (i).toNat (0, 0, 0, ([] : List ByteArray))).2)).set (i).toNat (((a.set (i).toNat (k, (a.getD (i).toNat (0, 0, 0, ([] : List ByteArray))).2)).getD (i).toNat (0, 0, 0, ([] : List ByteArray))).1, (w64 (k + 1)), ((a.set (i).toNat (k, (a.getD (i).toNat (0, 0, 0, ([] : List ByteArray))).2)).getD (i).toNat (0, 0, 0, ([] : List ByteArray))).2.2)).getD (i).toNat (0, 0, 0, ([] : List ByteArray))).2.2.2)).getD (i).toNat (0, 0, 0, ([] : List ByteArray))).2.1, ((((a.set (i).toNat (k, (a.getD (i).toNat (0, 0, 0, ([] : List ByteArray))).2)).set (i).toNat (((a.set (i).toNat (k, (a.getD (i).toNat (0, 0, 0, ([] : List ByteArray))).2)).getD (i).toNat (0, 0, 0, ([] : List ByteArray))).1, (w64 (k + 1)), ((a.set (i).toNat (k, (a.getD (i).toNat (0, 0, 0, ([] : List ByteArray))).2)).getD (i).toNat (0, 0, 0, ([] : List ByteArray))).2.2)).set (i).toNat ((((a.set (i).toNat (k, (a.getD (i).toNat (0, 0, 0, ([] : List ByteArray))).2)).set (i).toNat (((a.set (i).toNat (k, (a.getD (i).toNat (0, 0, 0, ([] : List ByteArray))).2)).getD (i).toNat (0, 0, 0, ([] : List ByteArray))).1, (w64 (k + 1)), ((a.set (i).toNat (k, (a.getD (i).toNat (0, 0, 0, ([] : List ByteArray))).2)).getD (i).toNat (0, 0, 0, ([] : List ByteArray))).2.2)).getD (i).toNat (0, 0, 0, ([] : List ByteArray))).1, (((a.set (i).toNat (k, (a.getD (i).toNat (0, 0, 0, ([] : List ByteArray))).2)).set (i).toNat (((a.set (i).toNat (k, (a.getD (i).toNat (0, 0, 0, ([] : List ByteArray))).2)).getD (i).toNat (0, 0, 0, ([] : List ByteArray))).1, (w64 (k + 1)), ((a.set (i).toNat (k, (a.getD (i).toNat (0, 0, 0, ([] : List ByteArray))).2)).getD (i).toNat (0, 0, 0, ([] : List ByteArray))).2.2)).getD (i).toNat (0, 0, 0, ([] : List ByteArray))).2.1, (w64 ((w64 (k + 1)) + 1)), (((a.set (i).toNat (k, (a.getD (i).toNat (0, 0, 0, ([] : List ByteArray))).2)).set (i).toNat (((a.set (i).toNat (k, (a.getD (i).toNat (0, 0, 0, ([] : List ByteArray))).2)).getD (i).toNat (0, 0, 0, ([] : List ByteArray))).1, (w64 (k + 1)), ((a.set (i).toNat (k, (a.getD (i).toNat (0, 0, 0, ([] : List ByteArray))).2)).getD (i).toNat (0, 0, 0, ([] : List ByteArray))).2.2)).getD (i).toNat (0, 0, 0, ([] : List ByteArray))).2.2.2)).getD (i).toNat (0, 0, 0, ([] : List ByteArray))).2.2.1, y1.2)) y1.1 (w64 (i + 1))) else none) else none) else none) else none) else (some (k, a))) :=
  (fixP_eq laws_markOrderS.E laws_markOrderS.T laws_markOrderS.C laws_markOrderS.K 4 laws_markOrderS.D4 (a, k, i)).trans (by kernel_rfl)
theorem laws_markOrderS.f_eq (a : List (Int × Int × Int × List ByteArray)) (k : Int) : laws_markOrderS.f a k =
  (laws_markOrderS.l4 a k 0) := by kernel_rfl
noncomputable def laws_markOrderS.S : Abs.Sum := ⟨laws_markOrderS.P, laws_markOrderS.R, fun _ => Fn laws_markOrderS.E laws_markOrderS.T laws_markOrderS.C laws_markOrderS.P laws_markOrderS.R laws_markOrderS.X⟩
theorem laws_markOrderS.meets : Meets Try.prog 25 laws_markOrderS.S := meets_tab (S := laws_markOrderS.U) tabOk_all (AllMeets.cons laws_markStringS.meets AllMeets.nil) (AllStill.cons (fun _ _ _ => rfl) AllStill.nil) follows (by kernel_rfl : Try.prog.funcs[25]? = some Try.f25) (by kernel_rfl) (by kernel_rfl) (by kernel_rfl)
noncomputable def laws_markHunkS.C : Code := Try.f26.body.getD .skip
def laws_markHunkS.P : Par := (.cons (.io 9 (.pair (.int .i64) (.pair (.int .i64) (.one (.list .str))))) (.cons (.val (.int .i64)) .nil))
noncomputable def laws_markHunkS.U : SumTab := [(14, [], laws_markStringS.S)]
noncomputable def laws_markHunkS.E : Env := mkEnv TY AR laws_markHunkS.U
def laws_markHunkS.D4 : CutD := ⟨[0, 1, 5], (.cons (.own 9 (.pair (.int .i64) (.pair (.int .i64) (.one (.list .str))))) (.cons (.val (.int .i64)) (.cons (.val (.int .i64)) .nil)))⟩
noncomputable def laws_markHunkS.T : Tab := fun k => look k [(4, laws_markHunkS.D4)]
def laws_markHunkS.R : List (Nat × Ty) := [(0, .int .i64)]
def laws_markHunkS.X : List ResultVar := [.tmp 4]
noncomputable def laws_markHunkS.K := fin laws_markHunkS.E ⟨laws_markHunkS.P, laws_markHunkS.R, fun _ _ => none⟩ laws_markHunkS.X laws_markHunkS.P.len 0
noncomputable def laws_markHunkS.l4 (a : List (Int × Int × List ByteArray)) (k : Int) (i : Int) : Option (Int × (List (Int × Int × List ByteArray))) := fixP laws_markHunkS.E laws_markHunkS.T laws_markHunkS.C laws_markHunkS.K 4 laws_markHunkS.D4 (a, k, i)
noncomputable def laws_markHunkS.f (a : List (Int × Int × List ByteArray)) (k : Int) : Option (Int × (List (Int × Int × List ByteArray))) := Fn laws_markHunkS.E laws_markHunkS.T laws_markHunkS.C laws_markHunkS.P laws_markHunkS.R laws_markHunkS.X (a, k)
theorem laws_markHunkS.l4_eq (a : List (Int × Int × List ByteArray)) (k : Int) (i : Int) : laws_markHunkS.l4 a k i =
  (bif (decide (i < (a.length : Int))) then (bif ((decide (0 ≤ i)) && (decide (i < (a.length : Int)))) then (bif ((decide (0 ≤ i)) && (decide (i < ((a.set (i).toNat (k, (a.getD (i).toNat (0, 0, ([] : List ByteArray))).2)).length : Int)))) then (bif ((decide (0 ≤ i)) && (decide (i < (((a.set (i).toNat (k, (a.getD (i).toNat (0, 0, ([] : List ByteArray))).2)).set (i).toNat (((a.set (i).toNat (k, (a.getD (i).toNat (0, 0, ([] : List ByteArray))).2)).getD (i).toNat (0, 0, ([] : List ByteArray))).1, (w64 (k + 1)), ((a.set (i).toNat (k, (a.getD (i).toNat (0, 0, ([] : List ByteArray))).2)).getD (i).toNat (0, 0, ([] : List ByteArray))).2.2)).length : Int)))) then ((laws_markStringS.f (((a.set (i).toNat (k, (a.getD (i).toNat (0, 0, ([] : List ByteArray))).2)).set (i).toNat (((a.set (i).toNat (k, (a.getD (i).toNat (0, 0, ([] : List ByteArray))).2)).getD (i).toNat (0, 0, ([] : List ByteArray))).1, (w64 (k + 1)), ((a.set (i).toNat (k, (a.getD (i).toNat (0, 0, ([] : List ByteArray))).2)).getD (i).toNat (0, 0, ([] : List ByteArray))).2.2)).getD (i).toNat (0, 0, ([] : List ByteArray))).2.2 (w64 ((w64 (k + 1)) + 1))).bind fun y1 =>
      laws_markHunkS.l4 (((a.set (i).toNat (k, (a.getD (i).toNat (0, 0, ([] : List ByteArray))).2)).set (i).toNat (((a.set (i).toNat (k, (a.getD (i).toNat (0, 0, ([] : List ByteArray))).2)).getD (i).toNat (0, 0, ([] : List ByteArray))).1, (w64 (k + 1)), ((a.set (i).toNat (k, (a.getD (i).toNat (0, 0, ([] : List ByteArray))).2)).getD (i).toNat (0, 0, ([] : List ByteArray))).2.2)).set (i).toNat ((((a.set (i).toNat (k, (a.getD (i).toNat (0, 0, ([] : List ByteArray))).2)).set (i).toNat (((a.set (i).toNat (k, (a.getD (i).toNat (0, 0, ([] : List ByteArray))).2)).getD (i).toNat (0, 0, ([] : List ByteArray))).1, (w64 (k + 1)), ((a.set (i).toNat (k, (a.getD (i).toNat (0, 0, ([] : List ByteArray))).2)).getD (i).toNat (0, 0, ([] : List ByteArray))).2.2)).getD (i).toNat (0, 0, ([] : List ByteArray))).1, (((a.set (i).toNat (k, (a.getD (i).toNat (0, 0, ([] : List ByteArray))).2)).set (i).toNat (((a.set (i).toNat (k, (a.getD (i).toNat (0, 0, ([] : List ByteArray))).2)).getD (i).toNat (0, 0, ([] : List ByteArray))).1, (w64 (k + 1)), ((a.set (i).toNat (k, (a.getD (i).toNat (0, 0, ([] : List ByteArray))).2)).getD (i).toNat (0, 0, ([] : List ByteArray))).2.2)).getD (i).toNat (0, 0, ([] : List ByteArray))).2.1, y1.2)) y1.1 (w64 (i + 1))) else none) else none) else none) else (some (k, a))) :=
  (fixP_eq laws_markHunkS.E laws_markHunkS.T laws_markHunkS.C laws_markHunkS.K 4 laws_markHunkS.D4 (a, k, i)).trans (by kernel_rfl)
theorem laws_markHunkS.f_eq (a : List (Int × Int × List ByteArray)) (k : Int) : laws_markHunkS.f a k =
  (laws_markHunkS.l4 a k 0) := by kernel_rfl
noncomputable def laws_markHunkS.S : Abs.Sum := ⟨laws_markHunkS.P, laws_markHunkS.R, fun _ => Fn laws_markHunkS.E laws_markHunkS.T laws_markHunkS.C laws_markHunkS.P laws_markHunkS.R laws_markHunkS.X⟩
theorem laws_markHunkS.meets : Meets Try.prog 26 laws_markHunkS.S := meets_tab (S := laws_markHunkS.U) tabOk_all (AllMeets.cons laws_markStringS.meets AllMeets.nil) (AllStill.cons (fun _ _ _ => rfl) AllStill.nil) follows (by kernel_rfl : Try.prog.funcs[26]? = some Try.f26) (by kernel_rfl) (by kernel_rfl) (by kernel_rfl)
noncomputable def laws_heldHunkS.C : Code := Try.f27.body.getD .skip
def laws_heldHunkS.P : Par := (.cons (.val (.list (.pair (.int .i64) (.pair (.int .i64) (.one (.list .str)))))) (.cons (.val (.int .i64)) .nil))
noncomputable def laws_heldHunkS.U : SumTab := [(17, [], laws_heldStringS.S)]
noncomputable def laws_heldHunkS.E : Env := mkEnv TY AR laws_heldHunkS.U
def laws_heldHunkS.D4 : CutD := ⟨[0, 1, 5], (.cons (.val (.list (.pair (.int .i64) (.pair (.int .i64) (.one (.list .str)))))) (.cons (.val (.int .i64)) (.cons (.val (.int .i64)) .nil)))⟩
noncomputable def laws_heldHunkS.T : Tab := fun k => look k [(4, laws_heldHunkS.D4)]
def laws_heldHunkS.R : List (Nat × Ty) := [(0, .int .i64)]
def laws_heldHunkS.X : List ResultVar := [.tmp 4]
noncomputable def laws_heldHunkS.K := fin laws_heldHunkS.E ⟨laws_heldHunkS.P, laws_heldHunkS.R, fun _ _ => none⟩ laws_heldHunkS.X laws_heldHunkS.P.len 0
noncomputable def laws_heldHunkS.l4 (a : List (Int × Int × List ByteArray)) (k : Int) (i : Int) : Option (Int) := fixP laws_heldHunkS.E laws_heldHunkS.T laws_heldHunkS.C laws_heldHunkS.K 4 laws_heldHunkS.D4 (a, k, i)
noncomputable def laws_heldHunkS.f (a : List (Int × Int × List ByteArray)) (k : Int) : Option (Int) := Fn laws_heldHunkS.E laws_heldHunkS.T laws_heldHunkS.C laws_heldHunkS.P laws_heldHunkS.R laws_heldHunkS.X (a, k)
theorem laws_heldHunkS.l4_eq (a : List (Int × Int × List ByteArray)) (k : Int) (i : Int) : laws_heldHunkS.l4 a k i =
  (bif (decide (i < (a.length : Int))) then (bif ((decide (0 ≤ i)) && (decide (i < (a.length : Int)))) then (bif (!(decide ((a.getD (i).toNat (0, 0, ([] : List ByteArray))).1 = k))) then (some (-1)) else
    (bif ((decide (0 ≤ i)) && (decide (i < (a.length : Int)))) then (bif (!(decide ((a.getD (i).toNat (0, 0, ([] : List ByteArray))).2.1 = (w64 (k + 1))))) then (some (-1)) else
      (bif ((decide (0 ≤ i)) && (decide (i < (a.length : Int)))) then ((laws_heldStringS.f (a.getD (i).toNat (0, 0, ([] : List ByteArray))).2.2 (w64 ((w64 (k + 1)) + 1))).bind fun y1 =>
        bif (decide (y1 < 0)) then (some (-1)) else
        (laws_heldHunkS.l4 a y1 (w64 (i + 1)))) else none)) else none)) else none) else (some k)) :=
  (fixP_eq laws_heldHunkS.E laws_heldHunkS.T laws_heldHunkS.C laws_heldHunkS.K 4 laws_heldHunkS.D4 (a, k, i)).trans (by kernel_rfl)
theorem laws_heldHunkS.f_eq (a : List (Int × Int × List ByteArray)) (k : Int) : laws_heldHunkS.f a k =
  (laws_heldHunkS.l4 a k 0) := by kernel_rfl
noncomputable def laws_heldHunkS.S : Abs.Sum := ⟨laws_heldHunkS.P, laws_heldHunkS.R, fun _ => Fn laws_heldHunkS.E laws_heldHunkS.T laws_heldHunkS.C laws_heldHunkS.P laws_heldHunkS.R laws_heldHunkS.X⟩
theorem laws_heldHunkS.meets : Meets Try.prog 27 laws_heldHunkS.S := meets_tab (S := laws_heldHunkS.U) tabOk_all (AllMeets.cons laws_heldStringS.meets AllMeets.nil) (AllStill.cons (fun _ _ _ => rfl) AllStill.nil) follows (by kernel_rfl : Try.prog.funcs[27]? = some Try.f27) (by kernel_rfl) (by kernel_rfl) (by kernel_rfl)
noncomputable def laws_FnExactOrdersHunks.C : Code := Try.f4.body.getD .skip
def laws_FnExactOrdersHunks.P : Par := (.cons (.val (.list .str)) (.cons (.val (.list (.pair (.int .i64) (.pair (.int .i64) (.pair (.int .i64) (.one (.list .str))))))) .nil))
noncomputable def laws_FnExactOrdersHunks.U : SumTab := [(5, [], laws_szStringS.S), (19, [], laws_szOrderS.S), (8, [], laws_toStringS.S), (21, [], laws_toOrderS.S), (20, [], spec_OrdersHunks.S), (22, [], impl_OrdersHunks.S), (23, [], laws_eqHunkS.S), (11, [], laws_eqStringS.S), (24, [], laws_eqOrderS.S), (14, [], laws_markStringS.S), (25, [], laws_markOrderS.S), (26, [], laws_markHunkS.S), (27, [], laws_heldHunkS.S)]
noncomputable def laws_FnExactOrdersHunks.E : Env := mkEnv TY AR laws_FnExactOrdersHunks.U
def laws_FnExactOrdersHunks.D29 : CutD := ⟨[0, 1, 6, 7, 8, 9, 10, 11, 12, 13], (.cons (.val (.list .str)) (.cons (.val (.list (.pair (.int .i64) (.pair (.int .i64) (.pair (.int .i64) (.one (.list .str))))))) (.cons (.own 8 (.pair (.int .i64) (.pair (.int .i64) (.one (.list .str))))) (.cons (.val (.int .i64)) (.cons (.val .bool) (.cons (.own 8 .str) (.cons (.own 8 (.pair (.int .i64) (.pair (.int .i64) (.pair (.int .i64) (.one (.list .str)))))) (.cons (.own 8 (.pair (.int .i64) (.pair (.int .i64) (.one (.list .str))))) (.cons (.val (.int .i64)) (.cons (.val .bool) .nil))))))))))⟩
def laws_FnExactOrdersHunks.D47 : CutD := ⟨[0, 1, 6, 7, 8, 11], (.cons (.val (.list .str)) (.cons (.val (.list (.pair (.int .i64) (.pair (.int .i64) (.pair (.int .i64) (.one (.list .str))))))) (.cons (.own 8 (.pair (.int .i64) (.pair (.int .i64) (.one (.list .str))))) (.cons (.val (.int .i64)) (.cons (.val .bool) (.cons (.own 8 (.pair (.int .i64) (.pair (.int .i64) (.one (.list .str))))) .nil))))))⟩
def laws_FnExactOrdersHunks.D69 : CutD := ⟨[11, 15], (.cons (.own 8 (.pair (.int .i64) (.pair (.int .i64) (.one (.list .str))))) (.cons (.val (.int .i64)) .nil))⟩
noncomputable def laws_FnExactOrdersHunks.T : Tab := fun k => look k [(29, laws_FnExactOrdersHunks.D29), (47, laws_FnExactOrdersHunks.D47), (69, laws_FnExactOrdersHunks.D69)]
def laws_FnExactOrdersHunks.R : List (Nat × Ty) := [(0, .bool)]
def laws_FnExactOrdersHunks.X : List ResultVar := [.tmp 4]
noncomputable def laws_FnExactOrdersHunks.K := fin laws_FnExactOrdersHunks.E ⟨laws_FnExactOrdersHunks.P, laws_FnExactOrdersHunks.R, fun _ _ => none⟩ laws_FnExactOrdersHunks.X laws_FnExactOrdersHunks.P.len 0
noncomputable def laws_FnExactOrdersHunks.l29 (aL : List ByteArray) (aO : List (Int × Int × Int × List ByteArray)) (w0 : List (Int × Int × List ByteArray)) (w1 : Int) (w2 : Bool) (x0 : List ByteArray) (x1 : List (Int × Int × Int × List ByteArray)) (g0 : List (Int × Int × List ByteArray)) (g1 : Int) (g2 : Bool) : Option (Bool) := fixP laws_FnExactOrdersHunks.E laws_FnExactOrdersHunks.T laws_FnExactOrdersHunks.C laws_FnExactOrdersHunks.K 29 laws_FnExactOrdersHunks.D29 (aL, aO, w0, w1, w2, x0, x1, g0, g1, g2)
noncomputable def laws_FnExactOrdersHunks.l47 (aL : List ByteArray) (aO : List (Int × Int × Int × List ByteArray)) (w0 : List (Int × Int × List ByteArray)) (w1 : Int) (w2 : Bool) (g0 : List (Int × Int × List ByteArray)) : Option (Bool) := fixP laws_FnExactOrdersHunks.E laws_FnExactOrdersHunks.T laws_FnExactOrdersHunks.C laws_FnExactOrdersHunks.K 47 laws_FnExactOrdersHunks.D47 (aL, aO, w0, w1, w2, g0)
noncomputable def laws_FnExactOrdersHunks.l69 (g0 : List (Int × Int × List ByteArray)) (m : Int) : Option (Bool) := fixP laws_FnExactOrdersHunks.E laws_FnExactOrdersHunks.T laws_FnExactOrdersHunks.C laws_FnExactOrdersHunks.K 69 laws_FnExactOrdersHunks.D69 (g0, m)
noncomputable def laws_FnExactOrdersHunks.f (aL : List ByteArray) (aO : List (Int × Int × Int × List ByteArray)) : Option (Bool) := Fn laws_FnExactOrdersHunks.E laws_FnExactOrdersHunks.T laws_FnExactOrdersHunks.C laws_FnExactOrdersHunks.P laws_FnExactOrdersHunks.R laws_FnExactOrdersHunks.X (aL, aO)
theorem laws_FnExactOrdersHunks.l29_eq (aL : List ByteArray) (aO : List (Int × Int × Int × List ByteArray)) (w0 : List (Int × Int × List ByteArray)) (w1 : Int) (w2 : Bool) (x0 : List ByteArray) (x1 : List (Int × Int × Int × List ByteArray)) (g0 : List (Int × Int × List ByteArray)) (g1 : Int) (g2 : Bool) : laws_FnExactOrdersHunks.l29 aL aO w0 w1 w2 x0 x1 g0 g1 g2 =
  ((laws_toStringS.f aL).bind fun y1 =>
  (laws_eqStringS.f x0 y1).bind fun y2 =>
  bif (!y2) then (some false) else
  ((laws_toOrderS.f aO).bind fun y3 =>
   (laws_eqOrderS.f x1 y3).bind fun y4 =>
   bif (!y4) then (some false) else
   ((laws_markStringS.f x0 1).bind fun y5 =>
    (laws_markOrderS.f x1 y5.1).bind fun y6 =>
    bif (decide (y6.1 < 0)) then (some false) else
    ((laws_eqHunkS.f g0 w0).bind fun y7 =>
     bif (!y7) then (some false) else
     (bif (!(decide (g1 = w1))) then (some false) else
      (bif (!(g2 == w2)) then (some false) else
       (laws_FnExactOrdersHunks.l47 aL aO w0 w1 w2 g0))))))) :=
  (fixP_eq laws_FnExactOrdersHunks.E laws_FnExactOrdersHunks.T laws_FnExactOrdersHunks.C laws_FnExactOrdersHunks.K 29 laws_FnExactOrdersHunks.D29 (aL, aO, w0, w1, w2, x0, x1, g0, g1, g2)).trans (by kernel_rfl)
theorem laws_FnExactOrdersHunks.l47_eq (aL : List ByteArray) (aO : List (Int × Int × Int × List ByteArray)) (w0 : List (Int × Int × List ByteArray)) (w1 : Int) (w2 : Bool) (g0 : List (Int × Int × List ByteArray)) : laws_FnExactOrdersHunks.l47 aL aO w0 w1 w2 g0 =
  ((laws_markHunkS.f g0 1).bind fun y1 =>
  (laws_heldHunkS.f y1.2 1).bind fun y2 =>
  bif (decide (y2 < 0)) then (some false) else
  (bif (!(decide (y2 = y1.1))) then (some false) else
   ((laws_toStringS.f aL).bind fun y3 =>
    (laws_toOrderS.f aO).bind fun y4 =>
    (impl_OrdersHunks.f y3 y4).bind fun y5 =>
    (laws_eqHunkS.f y5.1 w0).bind fun y6 =>
    bif (!y6) then (some false) else
    (bif (!(decide (y5.2.1 = w1))) then (some false) else
     (bif (!(y5.2.2 == w2)) then (some false) else
      (laws_FnExactOrdersHunks.l69 y1.2 y1.1)))))) :=
  (fixP_eq laws_FnExactOrdersHunks.E laws_FnExactOrdersHunks.T laws_FnExactOrdersHunks.C laws_FnExactOrdersHunks.K 47 laws_FnExactOrdersHunks.D47 (aL, aO, w0, w1, w2, g0)).trans (by kernel_rfl)
theorem laws_FnExactOrdersHunks.l69_eq (g0 : List (Int × Int × List ByteArray)) (m : Int) : laws_FnExactOrdersHunks.l69 g0 m =
  ((laws_heldHunkS.f g0 1).bind fun y1 =>
  bif (decide (y1 < 0)) then (some false) else
  (bif (!(decide (y1 = m))) then (some false) else (some true))) :=
  (fixP_eq laws_FnExactOrdersHunks.E laws_FnExactOrdersHunks.T laws_FnExactOrdersHunks.C laws_FnExactOrdersHunks.K 69 laws_FnExactOrdersHunks.D69 (g0, m)).trans (by kernel_rfl)
theorem laws_FnExactOrdersHunks.f_eq (aL : List ByteArray) (aO : List (Int × Int × Int × List ByteArray)) : laws_FnExactOrdersHunks.f aL aO =
  ((laws_szStringS.f aL 1048576).bind fun y1 =>
  bif (decide (y1 < 0)) then (some true) else
  ((laws_szOrderS.f aO y1).bind fun y2 =>
   bif (decide (y2 < 0)) then (some true) else
   ((laws_toStringS.f aL).bind fun y3 =>
    (laws_toOrderS.f aO).bind fun y4 =>
    (spec_OrdersHunks.f y3 y4).bind fun y5 =>
    (laws_toStringS.f aL).bind fun y6 =>
    (laws_toOrderS.f aO).bind fun y7 =>
    (impl_OrdersHunks.f y6 y7).bind fun y8 =>
    (laws_eqHunkS.f y8.1 y5.1).bind fun y9 =>
    bif (!y9) then (some false) else
    (bif (!(decide (y8.2.1 = y5.2.1))) then (some false) else
     (bif (!(y8.2.2 == y5.2.2)) then (some false) else
      (laws_FnExactOrdersHunks.l29 aL aO y5.1 y5.2.1 y5.2.2 y6 y7 y8.1 y8.2.1 y8.2.2)))))) := by kernel_rfl
noncomputable def laws_FnExactOrdersHunks.S : Abs.Sum := ⟨laws_FnExactOrdersHunks.P, laws_FnExactOrdersHunks.R, fun _ => Fn laws_FnExactOrdersHunks.E laws_FnExactOrdersHunks.T laws_FnExactOrdersHunks.C laws_FnExactOrdersHunks.P laws_FnExactOrdersHunks.R laws_FnExactOrdersHunks.X⟩
theorem laws_FnExactOrdersHunks.meets : Meets Try.prog 4 laws_FnExactOrdersHunks.S := meets_tab (S := laws_FnExactOrdersHunks.U) tabOk_all (AllMeets.cons laws_szStringS.meets (AllMeets.cons laws_szOrderS.meets (AllMeets.cons laws_toStringS.meets (AllMeets.cons laws_toOrderS.meets (AllMeets.cons spec_OrdersHunks.meets (AllMeets.cons impl_OrdersHunks.meets (AllMeets.cons laws_eqHunkS.meets (AllMeets.cons laws_eqStringS.meets (AllMeets.cons laws_eqOrderS.meets (AllMeets.cons laws_markStringS.meets (AllMeets.cons laws_markOrderS.meets (AllMeets.cons laws_markHunkS.meets (AllMeets.cons laws_heldHunkS.meets AllMeets.nil))))))))))))) (AllStill.cons (fun _ _ _ => rfl) (AllStill.cons (fun _ _ _ => rfl) (AllStill.cons (fun _ _ _ => rfl) (AllStill.cons (fun _ _ _ => rfl) (AllStill.cons (fun _ _ _ => rfl) (AllStill.cons (fun _ _ _ => rfl) (AllStill.cons (fun _ _ _ => rfl) (AllStill.cons (fun _ _ _ => rfl) (AllStill.cons (fun _ _ _ => rfl) (AllStill.cons (fun _ _ _ => rfl) (AllStill.cons (fun _ _ _ => rfl) (AllStill.cons (fun _ _ _ => rfl) (AllStill.cons (fun _ _ _ => rfl) AllStill.nil))))))))))))) follows (by kernel_rfl : Try.prog.funcs[4]? = some Try.f4) (by kernel_rfl) (by kernel_rfl) (by kernel_rfl)
end Go.Abs.G
