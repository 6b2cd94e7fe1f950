import Derived.Test.YtafohchkacclpaaGB
set_option linter.unusedVariables false
set_option linter.unusedSimpArgs false
namespace Go.Abs.G
open Go Go.Abs Go.Proofs
noncomputable def spec_l1In.C : Code := Try.f94.body.getD .skip
def spec_l1In.P : Par := (.cons (.val (.int .i64)) (.cons (.val (.int .i64)) (.cons (.val (.int .i64)) .nil)))
noncomputable def spec_l1In.U : SumTab := []
noncomputable def spec_l1In.E : Env := mkEnv TY AR spec_l1In.U
noncomputable def spec_l1In.T : Tab := fun k => look k []
def spec_l1In.R : List (Nat × Ty) := [(0, .bool)]
def spec_l1In.X : List ResultVar := [.tmp 6]
noncomputable def spec_l1In.f (n : Int) (lo : Int) (hi : Int) : Option (Bool) := Fn spec_l1In.E spec_l1In.T spec_l1In.C spec_l1In.P spec_l1In.R spec_l1In.X (n, lo, hi)
theorem spec_l1In.f_eq (n : Int) (lo : Int) (hi : Int) : spec_l1In.f n lo hi =
  (bif (decide (n ≥ lo)) then (some (decide (n ≤ hi))) else (some false)) := by kernel_rfl
noncomputable def spec_l1In.S : Abs.Sum := ⟨spec_l1In.P, spec_l1In.R, fun _ => Fn spec_l1In.E spec_l1In.T spec_l1In.C spec_l1In.P spec_l1In.R spec_l1In.X⟩
theorem spec_l1In.meets : Meets Try.prog 94 spec_l1In.S := meets_tab (S := spec_l1In.U) tabOk_all AllMeets.nil AllStill.nil follows (by kernel_rfl : Try.prog.funcs[94]? = some Try.f94) (by kernel_rfl) (by kernel_rfl) (by kernel_rfl)
noncomputable def spec_l1Line.C : Code := Try.f76.body.getD .skip
def spec_l1Line.P : Par := (.cons (.val .str) .nil)
noncomputable def spec_l1Line.U : SumTab := [(94, [], spec_l1In.S)]
noncomputable def spec_l1Line.E : Env := mkEnv TY AR spec_l1Line.U
def spec_l1Line.D4 : CutD := ⟨[0, 3], (.cons (.val .str) (.cons (.val (.int .i64)) .nil))⟩
noncomputable def spec_l1Line.T : Tab := fun k => look k [(4, spec_l1Line.D4)]
def spec_l1Line.R : List (Nat × Ty) := [(0, .bool)]
def spec_l1Line.X : List ResultVar := [.tmp 2]
noncomputable def spec_l1Line.K := fin spec_l1Line.E ⟨spec_l1Line.P, spec_l1Line.R, fun _ _ => none⟩ spec_l1Line.X spec_l1Line.P.len 0
noncomputable def spec_l1Line.l4 (s : ByteArray) (i : Int) : Option (Bool) := fixP spec_l1Line.E spec_l1Line.T spec_l1Line.C spec_l1Line.K 4 spec_l1Line.D4 (s, i)
noncomputable def spec_l1Line.f (s : ByteArray) : Option (Bool) := Fn spec_l1Line.E spec_l1Line.T spec_l1Line.C spec_l1Line.P spec_l1Line.R spec_l1Line.X s
theorem spec_l1Line.l4_eq (s : ByteArray) (i : Int) : spec_l1Line.l4 s i =
  (bif (decide (i < (w64 ((s.size : Int) - 1)))) then (bif ((decide (0 ≤ i)) && (decide (i < (s.size : Int)))) then (bif (decide ((bt s i) = 10)) then (some false) else
    (spec_l1Line.l4 s (w64 (i + 1)))) else none) else
  ((spec_l1In.f (s.size : Int) 1 30).bind fun y1 =>
   some y1)) :=
  (fixP_eq spec_l1Line.E spec_l1Line.T spec_l1Line.C spec_l1Line.K 4 spec_l1Line.D4 (s, i)).trans (by kernel_rfl)
theorem spec_l1Line.f_eq (s : ByteArray) : spec_l1Line.f s =
  (spec_l1Line.l4 s 0) := by kernel_rfl
noncomputable def spec_l1Line.S : Abs.Sum := ⟨spec_l1Line.P, spec_l1Line.R, fun _ => Fn spec_l1Line.E spec_l1Line.T spec_l1Line.C spec_l1Line.P spec_l1Line.R spec_l1Line.X⟩
theorem spec_l1Line.meets : Meets Try.prog 76 spec_l1Line.S := meets_tab (S := spec_l1Line.U) tabOk_all (AllMeets.cons spec_l1In.meets AllMeets.nil) (AllStill.cons (fun _ _ _ => rfl) AllStill.nil) follows (by kernel_rfl : Try.prog.funcs[76]? = some Try.f76) (by kernel_rfl) (by kernel_rfl) (by kernel_rfl)
noncomputable def spec_l1Ends.C : Code := Try.f132.body.getD .skip
def spec_l1Ends.P : Par := (.cons (.val .str) .nil)
noncomputable def spec_l1Ends.U : SumTab := []
noncomputable def spec_l1Ends.E : Env := mkEnv TY AR spec_l1Ends.U
noncomputable def spec_l1Ends.T : Tab := fun k => look k []
def spec_l1Ends.R : List (Nat × Ty) := [(0, .bool)]
def spec_l1Ends.X : List ResultVar := [.tmp 2]
noncomputable def spec_l1Ends.f (s : ByteArray) : Option (Bool) := Fn spec_l1Ends.E spec_l1Ends.T spec_l1Ends.C spec_l1Ends.P spec_l1Ends.R spec_l1Ends.X s
theorem spec_l1Ends.f_eq (s : ByteArray) : spec_l1Ends.f s =
  (bif ((decide (0 ≤ (w64 ((s.size : Int) - 1)))) && (decide ((w64 ((s.size : Int) - 1)) < (s.size : Int)))) then (some (decide ((bt s (w64 ((s.size : Int) - 1))) = 10))) else none) := by kernel_rfl
noncomputable def spec_l1Ends.S : Abs.Sum := ⟨spec_l1Ends.P, spec_l1Ends.R, fun _ => Fn spec_l1Ends.E spec_l1Ends.T spec_l1Ends.C spec_l1Ends.P spec_l1Ends.R spec_l1Ends.X⟩
theorem spec_l1Ends.meets : Meets Try.prog 132 spec_l1Ends.S := meets_tab (S := spec_l1Ends.U) tabOk_all AllMeets.nil AllStill.nil follows (by kernel_rfl : Try.prog.funcs[132]? = some Try.f132) (by kernel_rfl) (by kernel_rfl) (by kernel_rfl)
noncomputable def impl_in.C : Code := Try.f104.body.getD .skip
def impl_in.P : Par := (.cons (.val (.int .i64)) (.cons (.val (.int .i64)) (.cons (.val (.int .i64)) .nil)))
noncomputable def impl_in.U : SumTab := []
noncomputable def impl_in.E : Env := mkEnv TY AR impl_in.U
noncomputable def impl_in.T : Tab := fun k => look k []
def impl_in.R : List (Nat × Ty) := [(0, .bool)]
def impl_in.X : List ResultVar := [.tmp 6]
noncomputable def impl_in.f (n : Int) (low : Int) (high : Int) : Option (Bool) := Fn impl_in.E impl_in.T impl_in.C impl_in.P impl_in.R impl_in.X (n, low, high)
theorem impl_in.f_eq (n : Int) (low : Int) (high : Int) : impl_in.f n low high =
  (bif (decide (n ≥ low)) then (some (decide (n ≤ high))) else (some false)) := by kernel_rfl
noncomputable def impl_in.S : Abs.Sum := ⟨impl_in.P, impl_in.R, fun _ => Fn impl_in.E impl_in.T impl_in.C impl_in.P impl_in.R impl_in.X⟩
theorem impl_in.meets : Meets Try.prog 104 impl_in.S := meets_tab (S := impl_in.U) tabOk_all AllMeets.nil AllStill.nil follows (by kernel_rfl : Try.prog.funcs[104]? = some Try.f104) (by kernel_rfl) (by kernel_rfl) (by kernel_rfl)
noncomputable def impl_isLine.C : Code := Try.f137.body.getD .skip
def impl_isLine.P : Par := (.cons (.val .str) .nil)
noncomputable def impl_isLine.U : SumTab := [(104, [], impl_in.S), (170, [], strings_Contains.S)]
noncomputable def impl_isLine.E : Env := mkEnv TY AR impl_isLine.U
noncomputable def impl_isLine.T : Tab := fun k => look k []
def impl_isLine.R : List (Nat × Ty) := [(0, .bool)]
def impl_isLine.X : List ResultVar := [.tmp 2]
noncomputable def impl_isLine.f (line : ByteArray) : Option (Bool) := Fn impl_isLine.E impl_isLine.T impl_isLine.C impl_isLine.P impl_isLine.R impl_isLine.X line
theorem impl_isLine.f_eq (line : ByteArray) : impl_isLine.f line =
  ((impl_in.f (line.size : Int) 1 30).bind fun y1 =>
  bif y1 then (bif ((decide (0 ≤ (w64 ((line.size : Int) - 1)))) && (decide ((w64 ((line.size : Int) - 1)) ≤ (line.size : Int)))) then ((strings_Contains.f (line.extract 0 ((w64 ((line.size : Int) - 1))).toNat) (⟨#[10]⟩ : ByteArray)).bind fun y2 =>
    some (!y2)) else none) else (some false)) := by kernel_rfl
noncomputable def impl_isLine.S : Abs.Sum := ⟨impl_isLine.P, impl_isLine.R, fun _ => Fn impl_isLine.E impl_isLine.T impl_isLine.C impl_isLine.P impl_isLine.R impl_isLine.X⟩
theorem impl_isLine.meets : Meets Try.prog 137 impl_isLine.S := meets_tab (S := impl_isLine.U) tabOk_all (AllMeets.cons impl_in.meets (AllMeets.cons strings_Contains.meets AllMeets.nil)) (AllStill.cons (fun _ _ _ => rfl) (AllStill.cons (fun _ _ _ => rfl) AllStill.nil)) follows (by kernel_rfl : Try.prog.funcs[137]? = some Try.f137) (by kernel_rfl) (by kernel_rfl) (by kernel_rfl)
noncomputable def impl_areLines_1.C : Code := Try.f136.body.getD .skip
def impl_areLines_1.P : Par := (.cons (.val .str) .nil)
noncomputable def impl_areLines_1.U : SumTab := [(137, [], impl_isLine.S)]
noncomputable def impl_areLines_1.E : Env := mkEnv TY AR impl_areLines_1.U
noncomputable def impl_areLines_1.T : Tab := fun k => look k []
def impl_areLines_1.R : List (Nat × Ty) := [(0, .bool)]
def impl_areLines_1.X : List ResultVar := [.tmp 2]
noncomputable def impl_areLines_1.f (line : ByteArray) : Option (Bool) := Fn impl_areLines_1.E impl_areLines_1.T impl_areLines_1.C impl_areLines_1.P impl_areLines_1.R impl_areLines_1.X line
theorem impl_areLines_1.f_eq (line : ByteArray) : impl_areLines_1.f line =
  ((impl_isLine.f line).bind fun y1 =>
  some (!y1)) := by kernel_rfl
noncomputable def impl_areLines_1.S : Abs.Sum := ⟨impl_areLines_1.P, impl_areLines_1.R, fun _ => Fn impl_areLines_1.E impl_areLines_1.T impl_areLines_1.C impl_areLines_1.P impl_areLines_1.R impl_areLines_1.X⟩
theorem impl_areLines_1.meets : Meets Try.prog 136 impl_areLines_1.S := meets_tab (S := impl_areLines_1.U) tabOk_all (AllMeets.cons impl_isLine.meets AllMeets.nil) (AllStill.cons (fun _ _ _ => rfl) AllStill.nil) follows (by kernel_rfl : Try.prog.funcs[136]? = some Try.f136) (by kernel_rfl) (by kernel_rfl) (by kernel_rfl)
noncomputable def slices_IndexFunc_Lstring_string__impl_areLines_1.C : Code := Try.f169.body.getD .skip
def slices_IndexFunc_Lstring_string__impl_areLines_1.P : Par := (.cons (.val (.list .str)) (.cons (.fn 136 .nil) .nil))
noncomputable def slices_IndexFunc_Lstring_string__impl_areLines_1.U : SumTab := [(136, [], impl_areLines_1.S)]
noncomputable def slices_IndexFunc_Lstring_string__impl_areLines_1.E : Env := mkEnv TY AR slices_IndexFunc_Lstring_string__impl_areLines_1.U
def slices_IndexFunc_Lstring_string__impl_areLines_1.D4 : CutD := ⟨[0, 1, 7, 8], (.cons (.val (.list .str)) (.cons (.fn 136 .nil) (.cons (.val (.int .i64)) (.cons (.val (.int .i64)) .nil))))⟩
noncomputable def slices_IndexFunc_Lstring_string__impl_areLines_1.T : Tab := fun k => look k [(4, slices_IndexFunc_Lstring_string__impl_areLines_1.D4)]
def slices_IndexFunc_Lstring_string__impl_areLines_1.R : List (Nat × Ty) := [(0, .int .i64)]
def slices_IndexFunc_Lstring_string__impl_areLines_1.X : List ResultVar := [.tmp 4]
noncomputable def slices_IndexFunc_Lstring_string__impl_areLines_1.K := fin slices_IndexFunc_Lstring_string__impl_areLines_1.E ⟨slices_IndexFunc_Lstring_string__impl_areLines_1.P, slices_IndexFunc_Lstring_string__impl_areLines_1.R, fun _ _ => none⟩ slices_IndexFunc_Lstring_string__impl_areLines_1.X slices_IndexFunc_Lstring_string__impl_areLines_1.P.len 0
noncomputable def slices_IndexFunc_Lstring_string__impl_areLines_1.l4 (s : List ByteArray) (t7 : Int) (t8 : Int) : Option (Int) := fixP slices_IndexFunc_Lstring_string__impl_areLines_1.E slices_IndexFunc_Lstring_string__impl_areLines_1.T slices_IndexFunc_Lstring_string__impl_areLines_1.C slices_IndexFunc_Lstring_string__impl_areLines_1.K 4 slices_IndexFunc_Lstring_string__impl_areLines_1.D4 (s, t7, t8)
noncomputable def slices_IndexFunc_Lstring_string__impl_areLines_1.f (s : List ByteArray) : Option (Int) := Fn slices_IndexFunc_Lstring_string__impl_areLines_1.E slices_IndexFunc_Lstring_string__impl_areLines_1.T slices_IndexFunc_Lstring_string__impl_areLines_1.C slices_IndexFunc_Lstring_string__impl_areLines_1.P slices_IndexFunc_Lstring_string__impl_areLines_1.R slices_IndexFunc_Lstring_string__impl_areLines_1.X s
theorem slices_IndexFunc_Lstring_string__impl_areLines_1.l4_eq (s : List ByteArray) (t7 : Int) (t8 : Int) : slices_IndexFunc_Lstring_string__impl_areLines_1.l4 s t7 t8 =
  (bif (decide (t8 < t7)) then (bif ((decide (0 ≤ t8)) && (decide (t8 < (s.length : Int)))) then ((impl_areLines_1.f (s.getD (t8).toNat em)).bind fun y1 =>
    bif y1 then (some t8) else
    (slices_IndexFunc_Lstring_string__impl_areLines_1.l4 s t7 (w64 (t8 + 1)))) else none) else (some (-1))) :=
  (fixP_eq slices_IndexFunc_Lstring_string__impl_areLines_1.E slices_IndexFunc_Lstring_string__impl_areLines_1.T slices_IndexFunc_Lstring_string__impl_areLines_1.C slices_IndexFunc_Lstring_string__impl_areLines_1.K 4 slices_IndexFunc_Lstring_string__impl_areLines_1.D4 (s, t7, t8)).trans (by kernel_rfl)
theorem slices_IndexFunc_Lstring_string__impl_areLines_1.f_eq (s : List ByteArray) : slices_IndexFunc_Lstring_string__impl_areLines_1.f s =
  (slices_IndexFunc_Lstring_string__impl_areLines_1.l4 s (s.length : Int) 0) := by kernel_rfl
noncomputable def slices_IndexFunc_Lstring_string__impl_areLines_1.S : Abs.Sum := ⟨slices_IndexFunc_Lstring_string__impl_areLines_1.P, slices_IndexFunc_Lstring_string__impl_areLines_1.R, fun _ => Fn slices_IndexFunc_Lstring_string__impl_areLines_1.E slices_IndexFunc_Lstring_string__impl_areLines_1.T slices_IndexFunc_Lstring_string__impl_areLines_1.C slices_IndexFunc_Lstring_string__impl_areLines_1.P slices_IndexFunc_Lstring_string__impl_areLines_1.R slices_IndexFunc_Lstring_string__impl_areLines_1.X⟩
theorem slices_IndexFunc_Lstring_string__impl_areLines_1.meets : Meets Try.prog 169 slices_IndexFunc_Lstring_string__impl_areLines_1.S := meets_tab (S := slices_IndexFunc_Lstring_string__impl_areLines_1.U) tabOk_all (AllMeets.cons impl_areLines_1.meets AllMeets.nil) (AllStill.cons (fun _ _ _ => rfl) AllStill.nil) follows (by kernel_rfl : Try.prog.funcs[169]? = some Try.f169) (by kernel_rfl) (by kernel_rfl) (by kernel_rfl)
noncomputable def slices_ContainsFunc_Lstring_string__impl_areLines_1.C : Code := Try.f135.body.getD .skip
def slices_ContainsFunc_Lstring_string__impl_areLines_1.P : Par := (.cons (.val (.list .str)) (.cons (.fn 136 .nil) .nil))
noncomputable def slices_ContainsFunc_Lstring_string__impl_areLines_1.U : SumTab := [(169, [136], slices_IndexFunc_Lstring_string__impl_areLines_1.S)]
noncomputable def slices_ContainsFunc_Lstring_string__impl_areLines_1.E : Env := mkEnv TY AR slices_ContainsFunc_Lstring_string__impl_areLines_1.U
noncomputable def slices_ContainsFunc_Lstring_string__impl_areLines_1.T : Tab := fun k => look k []
def slices_ContainsFunc_Lstring_string__impl_areLines_1.R : List (Nat × Ty) := [(0, .bool)]
def slices_ContainsFunc_Lstring_string__impl_areLines_1.X : List ResultVar := [.tmp 4]
noncomputable def slices_ContainsFunc_Lstring_string__impl_areLines_1.f (s : List ByteArray) : Option (Bool) := Fn slices_ContainsFunc_Lstring_string__impl_areLines_1.E slices_ContainsFunc_Lstring_string__impl_areLines_1.T slices_ContainsFunc_Lstring_string__impl_areLines_1.C slices_ContainsFunc_Lstring_string__impl_areLines_1.P slices_ContainsFunc_Lstring_string__impl_areLines_1.R slices_ContainsFunc_Lstring_string__impl_areLines_1.X s
theorem slices_ContainsFunc_Lstring_string__impl_areLines_1.f_eq (s : List ByteArray) : slices_ContainsFunc_Lstring_string__impl_areLines_1.f s =
  ((slices_IndexFunc_Lstring_string__impl_areLines_1.f s).bind fun y1 =>
  some (decide (y1 ≥ 0))) := by kernel_rfl
noncomputable def slices_ContainsFunc_Lstring_string__impl_areLines_1.S : Abs.Sum := ⟨slices_ContainsFunc_Lstring_string__impl_areLines_1.P, slices_ContainsFunc_Lstring_string__impl_areLines_1.R, fun _ => Fn slices_ContainsFunc_Lstring_string__impl_areLines_1.E slices_ContainsFunc_Lstring_string__impl_areLines_1.T slices_ContainsFunc_Lstring_string__impl_areLines_1.C slices_ContainsFunc_Lstring_string__impl_areLines_1.P slices_ContainsFunc_Lstring_string__impl_areLines_1.R slices_ContainsFunc_Lstring_string__impl_areLines_1.X⟩
theorem slices_ContainsFunc_Lstring_string__impl_areLines_1.meets : Meets Try.prog 135 slices_ContainsFunc_Lstring_string__impl_areLines_1.S := meets_tab (S := slices_ContainsFunc_Lstring_string__impl_areLines_1.U) tabOk_all (AllMeets.cons slices_IndexFunc_Lstring_string__impl_areLines_1.meets AllMeets.nil) (AllStill.cons (fun _ _ _ => rfl) AllStill.nil) follows (by kernel_rfl : Try.prog.funcs[135]? = some Try.f135) (by kernel_rfl) (by kernel_rfl) (by kernel_rfl)
noncomputable def impl_areLines.C : Code := Try.f79.body.getD .skip
def impl_areLines.P : Par := (.cons (.val (.list .str)) .nil)
noncomputable def impl_areLines.U : SumTab := [(135, [136], slices_ContainsFunc_Lstring_string__impl_areLines_1.S)]
noncomputable def impl_areLines.E : Env := mkEnv TY AR impl_areLines.U
noncomputable def impl_areLines.T : Tab := fun k => look k []
def impl_areLines.R : List (Nat × Ty) := [(0, .bool)]
def impl_areLines.X : List ResultVar := [.tmp 2]
noncomputable def impl_areLines.f (l : List ByteArray) : Option (Bool) := Fn impl_areLines.E impl_areLines.T impl_areLines.C impl_areLines.P impl_areLines.R impl_areLines.X l
theorem impl_areLines.f_eq (l : List ByteArray) : impl_areLines.f l =
  (bif (decide ((l.length : Int) ≤ 40)) then ((slices_ContainsFunc_Lstring_string__impl_areLines_1.f l).bind fun y1 =>
   some (!y1)) else (some false)) := by kernel_rfl
noncomputable def impl_areLines.S : Abs.Sum := ⟨impl_areLines.P, impl_areLines.R, fun _ => Fn impl_areLines.E impl_areLines.T impl_areLines.C impl_areLines.P impl_areLines.R impl_areLines.X⟩
theorem impl_areLines.meets : Meets Try.prog 79 impl_areLines.S := meets_tab (S := impl_areLines.U) tabOk_all (AllMeets.cons slices_ContainsFunc_Lstring_string__impl_areLines_1.meets AllMeets.nil) (AllStill.cons (fun _ _ _ => rfl) AllStill.nil) follows (by kernel_rfl : Try.prog.funcs[79]? = some Try.f79) (by kernel_rfl) (by kernel_rfl) (by kernel_rfl)
noncomputable def internal_stringslite_HasSuffix.C : Code := Try.f177.body.getD .skip
def internal_stringslite_HasSuffix.P : Par := (.cons (.val .str) (.cons (.val .str) .nil))
noncomputable def internal_stringslite_HasSuffix.U : SumTab := []
noncomputable def internal_stringslite_HasSuffix.E : Env := mkEnv TY AR internal_stringslite_HasSuffix.U
noncomputable def internal_stringslite_HasSuffix.T : Tab := fun k => look k []
def internal_stringslite_HasSuffix.R : List (Nat × Ty) := [(0, .bool)]
def internal_stringslite_HasSuffix.X : List ResultVar := [.tmp 4]
noncomputable def internal_stringslite_HasSuffix.f (s : ByteArray) (suffix : ByteArray) : Option (Bool) := Fn internal_stringslite_HasSuffix.E internal_stringslite_HasSuffix.T internal_stringslite_HasSuffix.C internal_stringslite_HasSuffix.P internal_stringslite_HasSuffix.R internal_stringslite_HasSuffix.X (s, suffix)
theorem internal_stringslite_HasSuffix.f_eq (s : ByteArray) (suffix : ByteArray) : internal_stringslite_HasSuffix.f s suffix =
  (bif (decide ((s.size : Int) ≥ (suffix.size : Int))) then (bif ((decide (0 ≤ (w64 ((s.size : Int) - (suffix.size : Int))))) && (decide ((w64 ((s.size : Int) - (suffix.size : Int))) ≤ (s.size : Int)))) then (some ((s.extract ((w64 ((s.size : Int) - (suffix.size : Int)))).toNat s.size).toList == suffix.toList)) else none) else (some false)) := by kernel_rfl
noncomputable def internal_stringslite_HasSuffix.S : Abs.Sum := ⟨internal_stringslite_HasSuffix.P, internal_stringslite_HasSuffix.R, fun _ => Fn internal_stringslite_HasSuffix.E internal_stringslite_HasSuffix.T internal_stringslite_HasSuffix.C internal_stringslite_HasSuffix.P internal_stringslite_HasSuffix.R internal_stringslite_HasSuffix.X⟩
theorem internal_stringslite_HasSuffix.meets : Meets Try.prog 177 internal_stringslite_HasSuffix.S := meets_tab (S := internal_stringslite_HasSuffix.U) tabOk_all AllMeets.nil AllStill.nil follows (by kernel_rfl : Try.prog.funcs[177]? = some Try.f177) (by kernel_rfl) (by kernel_rfl) (by kernel_rfl)
noncomputable def strings_HasSuffix.C : Code := Try.f168.body.getD .skip
def strings_HasSuffix.P : Par := (.cons (.val .str) (.cons (.val .str) .nil))
noncomputable def strings_HasSuffix.U : SumTab := [(177, [], internal_stringslite_HasSuffix.S)]
noncomputable def strings_HasSuffix.E : Env := mkEnv TY AR strings_HasSuffix.U
noncomputable def strings_HasSuffix.T : Tab := fun k => look k []
def strings_HasSuffix.R : List (Nat × Ty) := [(0, .bool)]
def strings_HasSuffix.X : List ResultVar := [.tmp 4]
noncomputable def strings_HasSuffix.f (s : ByteArray) (suffix : ByteArray) : Option (Bool) := Fn strings_HasSuffix.E strings_HasSuffix.T strings_HasSuffix.C strings_HasSuffix.P strings_HasSuffix.R strings_HasSuffix.X (s, suffix)
theorem strings_HasSuffix.f_eq (s : ByteArray) (suffix : ByteArray) : strings_HasSuffix.f s suffix =
  ((internal_stringslite_HasSuffix.f s suffix).bind fun y1 =>
  some y1) := by kernel_rfl
noncomputable def strings_HasSuffix.S : Abs.Sum := ⟨strings_HasSuffix.P, strings_HasSuffix.R, fun _ => Fn strings_HasSuffix.E strings_HasSuffix.T strings_HasSuffix.C strings_HasSuffix.P strings_HasSuffix.R strings_HasSuffix.X⟩
theorem strings_HasSuffix.meets : Meets Try.prog 168 strings_HasSuffix.S := meets_tab (S := strings_HasSuffix.U) tabOk_all (AllMeets.cons internal_stringslite_HasSuffix.meets AllMeets.nil) (AllStill.cons (fun _ _ _ => rfl) AllStill.nil) follows (by kernel_rfl : Try.prog.funcs[168]? = some Try.f168) (by kernel_rfl) (by kernel_rfl) (by kernel_rfl)
noncomputable def impl_isEnded.C : Code := Try.f134.body.getD .skip
def impl_isEnded.P : Par := (.cons (.val .str) .nil)
noncomputable def impl_isEnded.U : SumTab := [(168, [], strings_HasSuffix.S)]
noncomputable def impl_isEnded.E : Env := mkEnv TY AR impl_isEnded.U
noncomputable def impl_isEnded.T : Tab := fun k => look k []
def impl_isEnded.R : List (Nat × Ty) := [(0, .bool)]
def impl_isEnded.X : List ResultVar := [.tmp 2]
noncomputable def impl_isEnded.f (line : ByteArray) : Option (Bool) := Fn impl_isEnded.E impl_isEnded.T impl_isEnded.C impl_isEnded.P impl_isEnded.R impl_isEnded.X line
theorem impl_isEnded.f_eq (line : ByteArray) : impl_isEnded.f line =
  ((strings_HasSuffix.f line (⟨#[10]⟩ : ByteArray)).bind fun y1 =>
  some y1) := by kernel_rfl
noncomputable def impl_isEnded.S : Abs.Sum := ⟨impl_isEnded.P, impl_isEnded.R, fun _ => Fn impl_isEnded.E impl_isEnded.T impl_isEnded.C impl_isEnded.P impl_isEnded.R impl_isEnded.X⟩
theorem impl_isEnded.meets : Meets Try.prog 134 impl_isEnded.S := meets_tab (S := impl_isEnded.U) tabOk_all (AllMeets.cons strings_HasSuffix.meets AllMeets.nil) (AllStill.cons (fun _ _ _ => rfl) AllStill.nil) follows (by kernel_rfl : Try.prog.funcs[134]? = some Try.f134) (by kernel_rfl) (by kernel_rfl) (by kernel_rfl)
noncomputable def impl_goodLines.C : Code := Try.f78.body.getD .skip
def impl_goodLines.P : Par := (.cons (.val (.list .str)) .nil)
noncomputable def impl_goodLines.U : SumTab := [(79, [], impl_areLines.S), (134, [], impl_isEnded.S)]
noncomputable def impl_goodLines.E : Env := mkEnv TY AR impl_goodLines.U
def impl_goodLines.D8 : CutD := ⟨[0, 8, 9, 10], (.cons (.val (.list .str)) (.cons (.val (.list .str)) (.cons (.val (.int .i64)) (.cons (.val (.int .i64)) .nil))))⟩
noncomputable def impl_goodLines.T : Tab := fun k => look k [(8, impl_goodLines.D8)]
def impl_goodLines.R : List (Nat × Ty) := [(0, .bool)]
def impl_goodLines.X : List ResultVar := [.tmp 2]
noncomputable def impl_goodLines.K := fin impl_goodLines.E ⟨impl_goodLines.P, impl_goodLines.R, fun _ _ => none⟩ impl_goodLines.X impl_goodLines.P.len 0
noncomputable def impl_goodLines.l8 (l : List ByteArray) (t8 : List ByteArray) (t9 : Int) (t10 : Int) : Option (Bool) := fixP impl_goodLines.E impl_goodLines.T impl_goodLines.C impl_goodLines.K 8 impl_goodLines.D8 (l, t8, t9, t10)
noncomputable def impl_goodLines.f (l : List ByteArray) : Option (Bool) := Fn impl_goodLines.E impl_goodLines.T impl_goodLines.C impl_goodLines.P impl_goodLines.R impl_goodLines.X l
theorem impl_goodLines.l8_eq (l : List ByteArray) (t8 : List ByteArray) (t9 : Int) (t10 : Int) : impl_goodLines.l8 l t8 t9 t10 =
  (bif (decide (t10 < t9)) then (bif ((decide (0 ≤ t10)) && (decide (t10 < (t8.length : Int)))) then (bif (decide (t10 < (w64 ((l.length : Int) - 1)))) then ((impl_isEnded.f (t8.getD (t10).toNat em)).bind fun y1 =>
     bif (!y1) then (some false) else
     (impl_goodLines.l8 l t8 t9 (w64 (t10 + 1)))) else
    (impl_goodLines.l8 l t8 t9 (w64 (t10 + 1)))) else none) else (some true)) :=
  (fixP_eq impl_goodLines.E impl_goodLines.T impl_goodLines.C impl_goodLines.K 8 impl_goodLines.D8 (l, t8, t9, t10)).trans (by kernel_rfl)
theorem impl_goodLines.f_eq (l : List ByteArray) : impl_goodLines.f l =
  ((impl_areLines.f l).bind fun y1 =>
  bif (!y1) then (some false) else
  (impl_goodLines.l8 l l (l.length : Int) 0)) := by kernel_rfl
noncomputable def impl_goodLines.S : Abs.Sum := ⟨impl_goodLines.P, impl_goodLines.R, fun _ => Fn impl_goodLines.E impl_goodLines.T impl_goodLines.C impl_goodLines.P impl_goodLines.R impl_goodLines.X⟩
theorem impl_goodLines.meets : Meets Try.prog 78 impl_goodLines.S := meets_tab (S := impl_goodLines.U) tabOk_all (AllMeets.cons impl_areLines.meets (AllMeets.cons impl_isEnded.meets AllMeets.nil)) (AllStill.cons (fun _ _ _ => rfl) (AllStill.cons (fun _ _ _ => rfl) AllStill.nil)) follows (by kernel_rfl : Try.prog.funcs[78]? = some Try.f78) (by kernel_rfl) (by kernel_rfl) (by kernel_rfl)
noncomputable def laws_markText.C : Code := Try.f81.body.getD .skip
def laws_markText.P : Par := (.cons (.val (.int .i64)) .nil)
noncomputable def laws_markText.U : SumTab := []
noncomputable def laws_markText.E : Env := mkEnv TY AR laws_markText.U
def laws_markText.D8 : CutD := ⟨[0, 3], (.cons (.val (.int .i64)) (.cons (.val .str) .nil))⟩
noncomputable def laws_markText.T : Tab := fun k => look k [(8, laws_markText.D8)]
def laws_markText.R : List (Nat × Ty) := [(0, .str)]
def laws_markText.X : List ResultVar := [.tmp 2]
noncomputable def laws_markText.K := fin laws_markText.E ⟨laws_markText.P, laws_markText.R, fun _ _ => none⟩ laws_markText.X laws_markText.P.len 0
noncomputable def laws_markText.l8 (k : Int) (out : ByteArray) : Option (ByteArray) := fixP laws_markText.E laws_markText.T laws_markText.C laws_markText.K 8 laws_markText.D8 (k, out)
noncomputable def laws_markText.f (k : Int) : Option (ByteArray) := Fn laws_markText.E laws_markText.T laws_markText.C laws_markText.P laws_markText.R laws_markText.X k
theorem laws_markText.l8_eq (k : Int) (out : ByteArray) : laws_markText.l8 k out =
  (bif (decide (k > 0)) then (bif (decide (((strOf [(IntKind.wrap .u8 (w64 (48 + (k.tmod 10))))]).size + out.size) ≤ 9223372036854775807)) then (laws_markText.l8 (w64 (k.tdiv 10)) ((strOf [(IntKind.wrap .u8 (w64 (48 + (k.tmod 10))))]) ++ out)) else none) else
  (bif (decide (((⟨#[109]⟩ : ByteArray).size + out.size) ≤ 9223372036854775807)) then (some ((⟨#[109]⟩ : ByteArray) ++ out)) else none)) :=
  (fixP_eq laws_markText.E laws_markText.T laws_markText.C laws_markText.K 8 laws_markText.D8 (k, out)).trans (by kernel_rfl)
theorem laws_markText.f_eq (k : Int) : laws_markText.f k =
  (bif (decide (k ≤ 0)) then (some (⟨#[109, 48]⟩ : ByteArray)) else
  (laws_markText.l8 k em)) := by kernel_rfl
noncomputable def laws_markText.S : Abs.Sum := ⟨laws_markText.P, laws_markText.R, fun _ => Fn laws_markText.E laws_markText.T laws_markText.C laws_markText.P laws_markText.R laws_markText.X⟩
theorem laws_markText.meets : Meets Try.prog 81 laws_markText.S := meets_tab (S := laws_markText.U) tabOk_all AllMeets.nil AllStill.nil follows (by kernel_rfl : Try.prog.funcs[81]? = some Try.f81) (by kernel_rfl) (by kernel_rfl) (by kernel_rfl)
noncomputable def laws_szRow.C : Code := Try.f143.body.getD .skip
def laws_szRow.P : Par := (.cons (.val (.pair (.int .i64) (.one .str))) (.cons (.val (.int .i64)) .nil))
noncomputable def laws_szRow.U : SumTab := []
noncomputable def laws_szRow.E : Env := mkEnv TY AR laws_szRow.U
noncomputable def laws_szRow.T : Tab := fun k => look k []
def laws_szRow.R : List (Nat × Ty) := [(0, .int .i64)]
def laws_szRow.X : List ResultVar := [.tmp 4]
noncomputable def laws_szRow.f (a : Int × ByteArray) (left : Int) : Option (Int) := Fn laws_szRow.E laws_szRow.T laws_szRow.C laws_szRow.P laws_szRow.R laws_szRow.X (a, left)
theorem laws_szRow.f_eq (a : Int × ByteArray) (left : Int) : laws_szRow.f a left =
  (bif (decide ((w64 (left - (a.2.size : Int))) < 0)) then (some (-1)) else (some (w64 (left - (a.2.size : Int))))) := by kernel_rfl
noncomputable def laws_szRow.S : Abs.Sum := ⟨laws_szRow.P, laws_szRow.R, fun _ => Fn laws_szRow.E laws_szRow.T laws_szRow.C laws_szRow.P laws_szRow.R laws_szRow.X⟩
theorem laws_szRow.meets : Meets Try.prog 143 laws_szRow.S := meets_tab (S := laws_szRow.U) tabOk_all AllMeets.nil AllStill.nil follows (by kernel_rfl : Try.prog.funcs[143]? = some Try.f143) (by kernel_rfl) (by kernel_rfl) (by kernel_rfl)
noncomputable def laws_szRowS.C : Code := Try.f84.body.getD .skip
def laws_szRowS.P : Par := (.cons (.val (.list (.pair (.int .i64) (.one .str)))) (.cons (.val (.int .i64)) .nil))
noncomputable def laws_szRowS.U : SumTab := [(143, [], laws_szRow.S)]
noncomputable def laws_szRowS.E : Env := mkEnv TY AR laws_szRowS.U
def laws_szRowS.D10 : CutD := ⟨[0, 1, 5], (.cons (.val (.list (.pair (.int .i64) (.one .str)))) (.cons (.val (.int .i64)) (.cons (.val (.int .i64)) .nil)))⟩
noncomputable def laws_szRowS.T : Tab := fun k => look k [(10, laws_szRowS.D10)]
def laws_szRowS.R : List (Nat × Ty) := [(0, .int .i64)]
def laws_szRowS.X : List ResultVar := [.tmp 4]
noncomputable def laws_szRowS.K := fin laws_szRowS.E ⟨laws_szRowS.P, laws_szRowS.R, fun _ _ => none⟩ laws_szRowS.X laws_szRowS.P.len 0
noncomputable def laws_szRowS.l10 (a : List (Int × ByteArray)) (left : Int) (i : Int) : Option (Int) := fixP laws_szRowS.E laws_szRowS.T laws_szRowS.C laws_szRowS.K 10 laws_szRowS.D10 (a, left, i)
noncomputable def laws_szRowS.f (a : List (Int × ByteArray)) (left : Int) : Option (Int) := Fn laws_szRowS.E laws_szRowS.T laws_szRowS.C laws_szRowS.P laws_szRowS.R laws_szRowS.X (a, left)
theorem laws_szRowS.l10_eq (a : List (Int × ByteArray)) (left : Int) (i : Int) : laws_szRowS.l10 a left i =
  (bif (decide (i < (a.length : Int))) then (bif ((decide (0 ≤ i)) && (decide (i < (a.length : Int)))) then ((laws_szRow.f (a.getD (i).toNat (0, em)) left).bind fun y1 =>
    bif (decide (y1 < 0)) then (some (-1)) else
    (laws_szRowS.l10 a y1 (w64 (i + 1)))) else none) else (some left)) :=
  (fixP_eq laws_szRowS.E laws_szRowS.T laws_szRowS.C laws_szRowS.K 10 laws_szRowS.D10 (a, left, i)).trans (by kernel_rfl)
theorem laws_szRowS.f_eq (a : List (Int × ByteArray)) (left : Int) : laws_szRowS.f a left =
  (bif (decide ((w64 (left - (a.length : Int))) < 0)) then (some (-1)) else
  (laws_szRowS.l10 a (w64 (left - (a.length : Int))) 0)) := by kernel_rfl
noncomputable def laws_szRowS.S : Abs.Sum := ⟨laws_szRowS.P, laws_szRowS.R, fun _ => Fn laws_szRowS.E laws_szRowS.T laws_szRowS.C laws_szRowS.P laws_szRowS.R laws_szRowS.X⟩
theorem laws_szRowS.meets : Meets Try.prog 84 laws_szRowS.S := meets_tab (S := laws_szRowS.U) tabOk_all (AllMeets.cons laws_szRow.meets AllMeets.nil) (AllStill.cons (fun _ _ _ => rfl) AllStill.nil) follows (by kernel_rfl : Try.prog.funcs[84]? = some Try.f84) (by kernel_rfl) (by kernel_rfl) (by kernel_rfl)
noncomputable def laws_szGroup.C : Code := Try.f25.body.getD .skip
def laws_szGroup.P : Par := (.cons (.val (.pair (.int .i64) (.pair (.int .i64) (.one (.list (.pair (.int .i64) (.one .str))))))) (.cons (.val (.int .i64)) .nil))
noncomputable def laws_szGroup.U : SumTab := [(84, [], laws_szRowS.S)]
noncomputable def laws_szGroup.E : Env := mkEnv TY AR laws_szGroup.U
noncomputable def laws_szGroup.T : Tab := fun k => look k []
def laws_szGroup.R : List (Nat × Ty) := [(0, .int .i64)]
def laws_szGroup.X : List ResultVar := [.tmp 4]
noncomputable def laws_szGroup.f (a : Int × Int × List (Int × ByteArray)) (left : Int) : Option (Int) := Fn laws_szGroup.E laws_szGroup.T laws_szGroup.C laws_szGroup.P laws_szGroup.R laws_szGroup.X (a, left)
theorem laws_szGroup.f_eq (a : Int × Int × List (Int × ByteArray)) (left : Int) : laws_szGroup.f a left =
  ((laws_szRowS.f a.2.2 left).bind fun y1 =>
  bif (decide (y1 < 0)) then (some (-1)) else (some y1)) := by kernel_rfl
noncomputable def laws_szGroup.S : Abs.Sum := ⟨laws_szGroup.P, laws_szGroup.R, fun _ => Fn laws_szGroup.E laws_szGroup.T laws_szGroup.C laws_szGroup.P laws_szGroup.R laws_szGroup.X⟩
theorem laws_szGroup.meets : Meets Try.prog 25 laws_szGroup.S := meets_tab (S := laws_szGroup.U) tabOk_all (AllMeets.cons laws_szRowS.meets AllMeets.nil) (AllStill.cons (fun _ _ _ => rfl) AllStill.nil) follows (by kernel_rfl : Try.prog.funcs[25]? = some Try.f25) (by kernel_rfl) (by kernel_rfl) (by kernel_rfl)
noncomputable def laws_toRow.C : Code := Try.f146.body.getD .skip
def laws_toRow.P : Par := (.cons (.val (.pair (.int .i64) (.one .str))) .nil)
noncomputable def laws_toRow.U : SumTab := []
noncomputable def laws_toRow.E : Env := mkEnv TY AR laws_toRow.U
noncomputable def laws_toRow.T : Tab := fun k => look k []
def laws_toRow.R : List (Nat × Ty) := [(0, .pair (.int .i64) (.one .str))]
def laws_toRow.X : List ResultVar := [.cell 2 110]
noncomputable def laws_toRow.f (a : Int × ByteArray) : Option ((Int × ByteArray)) := Fn laws_toRow.E laws_toRow.T laws_toRow.C laws_toRow.P laws_toRow.R laws_toRow.X a
theorem laws_toRow.f_eq (a : Int × ByteArray) : laws_toRow.f a =
  (some (a.1, a.2)) := by kernel_rfl
noncomputable def laws_toRow.S : Abs.Sum := ⟨laws_toRow.P, laws_toRow.R, fun _ => Fn laws_toRow.E laws_toRow.T laws_toRow.C laws_toRow.P laws_toRow.R laws_toRow.X⟩
theorem laws_toRow.meets : Meets Try.prog 146 laws_toRow.S := meets_tab (S := laws_toRow.U) tabOk_all AllMeets.nil AllStill.nil follows (by kernel_rfl : Try.prog.funcs[146]? = some Try.f146) (by kernel_rfl) (by kernel_rfl) (by kernel_rfl)
noncomputable def laws_toRowS.C : Code := Try.f87.body.getD .skip
def laws_toRowS.P : Par := (.cons (.val (.list (.pair (.int .i64) (.one .str)))) .nil)
noncomputable def laws_toRowS.U : SumTab := [(146, [], laws_toRow.S)]
noncomputable def laws_toRowS.E : Env := mkEnv TY AR laws_toRowS.U
def laws_toRowS.D6 : CutD := ⟨[0, 3, 4], (.cons (.val (.list (.pair (.int .i64) (.one .str)))) (.cons (.own 9 (.pair (.int .i64) (.one .str))) (.cons (.val (.int .i64)) .nil)))⟩
noncomputable def laws_toRowS.T : Tab := fun k => look k [(6, laws_toRowS.D6)]
def laws_toRowS.R : List (Nat × Ty) := [(9, .list (.pair (.int .i64) (.one .str)))]
def laws_toRowS.X : List ResultVar := [.tmp 2]
noncomputable def laws_toRowS.K := fin laws_toRowS.E ⟨laws_toRowS.P, laws_toRowS.R, fun _ _ => none⟩ laws_toRowS.X laws_toRowS.P.len 0
noncomputable def laws_toRowS.l6 (a : List (Int × ByteArray)) (out : List (Int × ByteArray)) (i : Int) : Option ((List (Int × ByteArray))) := fixP laws_toRowS.E laws_toRowS.T laws_toRowS.C laws_toRowS.K 6 laws_toRowS.D6 (a, out, i)
noncomputable def laws_toRowS.f (a : List (Int × ByteArray)) : Option ((List (Int × ByteArray))) := Fn laws_toRowS.E laws_toRowS.T laws_toRowS.C laws_toRowS.P laws_toRowS.R laws_toRowS.X a
theorem laws_toRowS.l6_eq (a : List (Int × ByteArray)) (out : List (Int × ByteArray)) (i : Int) : laws_toRowS.l6 a out i =
  (bif (decide (i < (a.length : Int))) then (bif ((decide (0 ≤ i)) && (decide (i < (a.length : Int)))) then ((laws_toRow.f (a.getD (i).toNat (0, em))).bind fun y1 =>
    bif ((decide (0 ≤ i)) && (decide (i < (out.length : Int)))) then (laws_toRowS.l6 a (out.set (i).toNat y1) (w64 (i + 1))) else none) else none) else (some out)) :=
  (fixP_eq laws_toRowS.E laws_toRowS.T laws_toRowS.C laws_toRowS.K 6 laws_toRowS.D6 (a, out, i)).trans (by kernel_rfl)
theorem laws_toRowS.f_eq (a : List (Int × ByteArray)) : laws_toRowS.f a =
  (bif ((decide (0 ≤ (a.length : Int))) && (decide (((a.length : Int)).toNat ≤ room 24))) then (laws_toRowS.l6 a (List.replicate ((a.length : Int)).toNat (0, em)) 0) else none) := by kernel_rfl
noncomputable def laws_toRowS.S : Abs.Sum := ⟨laws_toRowS.P, laws_toRowS.R, fun _ => Fn laws_toRowS.E laws_toRowS.T laws_toRowS.C laws_toRowS.P laws_toRowS.R laws_toRowS.X⟩
theorem laws_toRowS.meets : Meets Try.prog 87 laws_toRowS.S := meets_tab (S := laws_toRowS.U) tabOk_all (AllMeets.cons laws_toRow.meets AllMeets.nil) (AllStill.cons (fun _ _ _ => rfl) AllStill.nil) follows (by kernel_rfl : Try.prog.funcs[87]? = some Try.f87) (by kernel_rfl) (by kernel_rfl) (by kernel_rfl)
noncomputable def laws_toGroup.C : Code := Try.f27.body.getD .skip
def laws_toGroup.P : Par := (.cons (.val (.pair (.int .i64) (.pair (.int .i64) (.one (.list (.pair (.int .i64) (.one .str))))))) .nil)
noncomputable def laws_toGroup.U : SumTab := [(87, [], laws_toRowS.S)]
noncomputable def laws_toGroup.E : Env := mkEnv TY AR laws_toGroup.U
noncomputable def laws_toGroup.T : Tab := fun k => look k []
def laws_toGroup.R : List (Nat × Ty) := [(9, .pair (.int .i64) (.pair (.int .i64) (.one (.list (.pair (.int .i64) (.one .str))))))]
def laws_toGroup.X : List ResultVar := [.cell 2 41]
noncomputable def laws_toGroup.f (a : Int × Int × List (Int × ByteArray)) : Option ((Int × Int × List (Int × ByteArray))) := Fn laws_toGroup.E laws_toGroup.T laws_toGroup.C laws_toGroup.P laws_toGroup.R laws_toGroup.X a
theorem laws_toGroup.f_eq (a : Int × Int × List (Int × ByteArray)) : laws_toGroup.f a =
  ((laws_toRowS.f a.2.2).bind fun y1 =>
  some (a.1, a.2.1, y1)) := by kernel_rfl
noncomputable def laws_toGroup.S : Abs.Sum := ⟨laws_toGroup.P, laws_toGroup.R, fun _ => Fn laws_toGroup.E laws_toGroup.T laws_toGroup.C laws_toGroup.P laws_toGroup.R laws_toGroup.X⟩
theorem laws_toGroup.meets : Meets Try.prog 27 laws_toGroup.S := meets_tab (S := laws_toGroup.U) tabOk_all (AllMeets.cons laws_toRowS.meets AllMeets.nil) (AllStill.cons (fun _ _ _ => rfl) AllStill.nil) follows (by kernel_rfl : Try.prog.funcs[27]? = some Try.f27) (by kernel_rfl) (by kernel_rfl) (by kernel_rfl)
noncomputable def spec_l6Old.C : Code := Try.f86.body.getD .skip
def spec_l6Old.P : Par := (.cons (.val (.pair (.int .i64) (.pair (.int .i64) (.one (.list (.pair (.int .i64) (.one .str))))))) .nil)
noncomputable def spec_l6Old.U : SumTab := []
noncomputable def spec_l6Old.E : Env := mkEnv TY AR spec_l6Old.U
def spec_l6Old.D6 : CutD := ⟨[3, 7, 8, 9], (.cons (.own 9 .str) (.cons (.val (.list (.pair (.int .i64) (.one .str)))) (.cons (.val (.int .i64)) (.cons (.val (.int .i64)) .nil))))⟩
noncomputable def spec_l6Old.T : Tab := fun k => look k [(6, spec_l6Old.D6)]
def spec_l6Old.R : List (Nat × Ty) := [(9, .list .str)]
def spec_l6Old.X : List ResultVar := [.tmp 2]
noncomputable def spec_l6Old.K := fin spec_l6Old.E ⟨spec_l6Old.P, spec_l6Old.R, fun _ _ => none⟩ spec_l6Old.X spec_l6Old.P.len 0
noncomputable def spec_l6Old.l6 (out : List ByteArray) (t7 : List (Int × ByteArray)) (t8 : Int) (t9 : Int) : Option ((List ByteArray)) := fixP spec_l6Old.E spec_l6Old.T spec_l6Old.C spec_l6Old.K 6 spec_l6Old.D6 (out, t7, t8, t9)
noncomputable def spec_l6Old.f (g : Int × Int × List (Int × ByteArray)) : Option ((List ByteArray)) := Fn spec_l6Old.E spec_l6Old.T spec_l6Old.C spec_l6Old.P spec_l6Old.R spec_l6Old.X g
theorem spec_l6Old.l6_eq (out : List ByteArray) (t7 : List (Int × ByteArray)) (t8 : Int) (t9 : Int) : spec_l6Old.l6 out t7 t8 t9 =
  (bif (decide (t9 < t8)) then (bif ((decide (0 ≤ t9)) && (decide (t9 < (t7.length : Int)))) then (bif (!(decide ((t7.getD (t9).toNat (0, em)).1 = 3))) then (bif (decide ((out.length + [(t7.getD (t9).toNat (0, em)).2].length) ≤ room 16)) then (spec_l6Old.l6 (out ++ [(t7.getD (t9).toNat (0, em)).2]) t7 t8 (w64 (t9 + 1))) else none) else
    (spec_l6Old.l6 out t7 t8 (w64 (t9 + 1)))) else none) else (some out)) :=
  (fixP_eq spec_l6Old.E spec_l6Old.T spec_l6Old.C spec_l6Old.K 6 spec_l6Old.D6 (out, t7, t8, t9)).trans (by kernel_rfl)
theorem spec_l6Old.f_eq (g : Int × Int × List (Int × ByteArray)) : spec_l6Old.f g =
  (spec_l6Old.l6 ([] : List ByteArray) g.2.2 (g.2.2.length : Int) 0) := by kernel_rfl
noncomputable def spec_l6Old.S : Abs.Sum := ⟨spec_l6Old.P, spec_l6Old.R, fun _ => Fn spec_l6Old.E spec_l6Old.T spec_l6Old.C spec_l6Old.P spec_l6Old.R spec_l6Old.X⟩
theorem spec_l6Old.meets : Meets Try.prog 86 spec_l6Old.S := meets_tab (S := spec_l6Old.U) tabOk_all AllMeets.nil AllStill.nil follows (by kernel_rfl : Try.prog.funcs[86]? = some Try.f86) (by kernel_rfl) (by kernel_rfl) (by kernel_rfl)
noncomputable def spec_l6New.C : Code := Try.f144.body.getD .skip
def spec_l6New.P : Par := (.cons (.val (.pair (.int .i64) (.pair (.int .i64) (.one (.list (.pair (.int .i64) (.one .str))))))) .nil)
noncomputable def spec_l6New.U : SumTab := []
noncomputable def spec_l6New.E : Env := mkEnv TY AR spec_l6New.U
def spec_l6New.D6 : CutD := ⟨[3, 7, 8, 9], (.cons (.own 9 .str) (.cons (.val (.list (.pair (.int .i64) (.one .str)))) (.cons (.val (.int .i64)) (.cons (.val (.int .i64)) .nil))))⟩
noncomputable def spec_l6New.T : Tab := fun k => look k [(6, spec_l6New.D6)]
def spec_l6New.R : List (Nat × Ty) := [(9, .list .str)]
def spec_l6New.X : List ResultVar := [.tmp 2]
noncomputable def spec_l6New.K := fin spec_l6New.E ⟨spec_l6New.P, spec_l6New.R, fun _ _ => none⟩ spec_l6New.X spec_l6New.P.len 0
noncomputable def spec_l6New.l6 (out : List ByteArray) (t7 : List (Int × ByteArray)) (t8 : Int) (t9 : Int) : Option ((List ByteArray)) := fixP spec_l6New.E spec_l6New.T spec_l6New.C spec_l6New.K 6 spec_l6New.D6 (out, t7, t8, t9)
noncomputable def spec_l6New.f (g : Int × Int × List (Int × ByteArray)) : Option ((List ByteArray)) := Fn spec_l6New.E spec_l6New.T spec_l6New.C spec_l6New.P spec_l6New.R spec_l6New.X g
theorem spec_l6New.l6_eq (out : List ByteArray) (t7 : List (Int × ByteArray)) (t8 : Int) (t9 : Int) : spec_l6New.l6 out t7 t8 t9 =
  (bif (decide (t9 < t8)) then (bif ((decide (0 ≤ t9)) && (decide (t9 < (t7.length : Int)))) then (bif (!(decide ((t7.getD (t9).toNat (0, em)).1 = 2))) then (bif (decide ((out.length + [(t7.getD (t9).toNat (0, em)).2].length) ≤ room 16)) then (spec_l6New.l6 (out ++ [(t7.getD (t9).toNat (0, em)).2]) t7 t8 (w64 (t9 + 1))) else none) else
    (spec_l6New.l6 out t7 t8 (w64 (t9 + 1)))) else none) else (some out)) :=
  (fixP_eq spec_l6New.E spec_l6New.T spec_l6New.C spec_l6New.K 6 spec_l6New.D6 (out, t7, t8, t9)).trans (by kernel_rfl)
theorem spec_l6New.f_eq (g : Int × Int × List (Int × ByteArray)) : spec_l6New.f g =
  (spec_l6New.l6 ([] : List ByteArray) g.2.2 (g.2.2.length : Int) 0) := by kernel_rfl
noncomputable def spec_l6New.S : Abs.Sum := ⟨spec_l6New.P, spec_l6New.R, fun _ => Fn spec_l6New.E spec_l6New.T spec_l6New.C spec_l6New.P spec_l6New.R spec_l6New.X⟩
theorem spec_l6New.meets : Meets Try.prog 144 spec_l6New.S := meets_tab (S := spec_l6New.U) tabOk_all AllMeets.nil AllStill.nil follows (by kernel_rfl : Try.prog.funcs[144]? = some Try.f144) (by kernel_rfl) (by kernel_rfl) (by kernel_rfl)
noncomputable def spec_l5Lines.C : Code := Try.f145.body.getD .skip
def spec_l5Lines.P : Par := (.cons (.val (.list .str)) .nil)
noncomputable def spec_l5Lines.U : SumTab := [(76, [], spec_l1Line.S), (132, [], spec_l1Ends.S)]
noncomputable def spec_l5Lines.E : Env := mkEnv TY AR spec_l5Lines.U
def spec_l5Lines.D4 : CutD := ⟨[0, 5, 6, 7], (.cons (.val (.list .str)) (.cons (.val (.list .str)) (.cons (.val (.int .i64)) (.cons (.val (.int .i64)) .nil))))⟩
noncomputable def spec_l5Lines.T : Tab := fun k => look k [(4, spec_l5Lines.D4)]
def spec_l5Lines.R : List (Nat × Ty) := [(0, .bool)]
def spec_l5Lines.X : List ResultVar := [.tmp 2]
noncomputable def spec_l5Lines.K := fin spec_l5Lines.E ⟨spec_l5Lines.P, spec_l5Lines.R, fun _ _ => none⟩ spec_l5Lines.X spec_l5Lines.P.len 0
noncomputable def spec_l5Lines.l4 (l : List ByteArray) (t5 : List ByteArray) (t6 : Int) (t7 : Int) : Option (Bool) := fixP spec_l5Lines.E spec_l5Lines.T spec_l5Lines.C spec_l5Lines.K 4 spec_l5Lines.D4 (l, t5, t6, t7)
noncomputable def spec_l5Lines.f (l : List ByteArray) : Option (Bool) := Fn spec_l5Lines.E spec_l5Lines.T spec_l5Lines.C spec_l5Lines.P spec_l5Lines.R spec_l5Lines.X l
theorem spec_l5Lines.l4_eq (l : List ByteArray) (t5 : List ByteArray) (t6 : Int) (t7 : Int) : spec_l5Lines.l4 l t5 t6 t7 =
  (bif (decide (t7 < t6)) then (bif ((decide (0 ≤ t7)) && (decide (t7 < (t5.length : Int)))) then ((spec_l1Line.f (t5.getD (t7).toNat em)).bind fun y1 =>
    bif (!y1) then (some false) else
    (bif (decide (t7 < (w64 ((l.length : Int) - 1)))) then ((spec_l1Ends.f (t5.getD (t7).toNat em)).bind fun y2 =>
      bif (!y2) then (some false) else
      (spec_l5Lines.l4 l t5 t6 (w64 (t7 + 1)))) else
     (spec_l5Lines.l4 l t5 t6 (w64 (t7 + 1))))) else none) else (some (decide ((l.length : Int) ≤ 40)))) :=
  (fixP_eq spec_l5Lines.E spec_l5Lines.T spec_l5Lines.C spec_l5Lines.K 4 spec_l5Lines.D4 (l, t5, t6, t7)).trans (by kernel_rfl)
theorem spec_l5Lines.f_eq (l : List ByteArray) : spec_l5Lines.f l =
  (spec_l5Lines.l4 l l (l.length : Int) 0) := by kernel_rfl
noncomputable def spec_l5Lines.S : Abs.Sum := ⟨spec_l5Lines.P, spec_l5Lines.R, fun _ => Fn spec_l5Lines.E spec_l5Lines.T spec_l5Lines.C spec_l5Lines.P spec_l5Lines.R spec_l5Lines.X⟩
theorem spec_l5Lines.meets : Meets Try.prog 145 spec_l5Lines.S := meets_tab (S := spec_l5Lines.U) tabOk_all (AllMeets.cons spec_l1Line.meets (AllMeets.cons spec_l1Ends.meets AllMeets.nil)) (AllStill.cons (fun _ _ _ => rfl) (AllStill.cons (fun _ _ _ => rfl) AllStill.nil)) follows (by kernel_rfl : Try.prog.funcs[145]? = some Try.f145) (by kernel_rfl) (by kernel_rfl) (by kernel_rfl)
noncomputable def spec_l6Group.C : Code := Try.f85.body.getD .skip
def spec_l6Group.P : Par := (.cons (.val (.pair (.int .i64) (.pair (.int .i64) (.one (.list (.pair (.int .i64) (.one .str))))))) .nil)
noncomputable def spec_l6Group.U : SumTab := [(94, [], spec_l1In.S), (76, [], spec_l1Line.S), (86, [], spec_l6Old.S), (144, [], spec_l6New.S), (145, [], spec_l5Lines.S)]
noncomputable def spec_l6Group.E : Env := mkEnv TY AR spec_l6Group.U
def spec_l6Group.D6 : CutD := ⟨[1, 3, 7, 8, 9], (.cons (.box 0 (.pair (.int .i64) (.pair (.int .i64) (.one (.list (.pair (.int .i64) (.one .str))))))) (.cons (.val .bool) (.cons (.val (.list (.pair (.int .i64) (.one .str)))) (.cons (.val (.int .i64)) (.cons (.val (.int .i64)) .nil)))))⟩
def spec_l6Group.D15 : CutD := ⟨[1, 3, 5, 7, 8, 9], (.cons (.box 0 (.pair (.int .i64) (.pair (.int .i64) (.one (.list (.pair (.int .i64) (.one .str))))))) (.cons (.val .bool) (.cons (.box 9 (.pair (.int .i64) (.one .str))) (.cons (.val (.list (.pair (.int .i64) (.one .str)))) (.cons (.val (.int .i64)) (.cons (.val (.int .i64)) .nil))))))⟩
noncomputable def spec_l6Group.T : Tab := fun k => look k [(6, spec_l6Group.D6), (15, spec_l6Group.D15)]
def spec_l6Group.R : List (Nat × Ty) := [(0, .bool)]
def spec_l6Group.X : List ResultVar := [.tmp 2]
noncomputable def spec_l6Group.K := fin spec_l6Group.E ⟨spec_l6Group.P, spec_l6Group.R, fun _ _ => none⟩ spec_l6Group.X spec_l6Group.P.len 0
noncomputable def spec_l6Group.l6 (g : Int × Int × List (Int × ByteArray)) (t3 : Bool) (t7 : List (Int × ByteArray)) (t8 : Int) (t9 : Int) : Option (Bool) := fixP spec_l6Group.E spec_l6Group.T spec_l6Group.C spec_l6Group.K 6 spec_l6Group.D6 (g, t3, t7, t8, t9)
noncomputable def spec_l6Group.l15 (g : Int × Int × List (Int × ByteArray)) (t3 : Bool) (r : Int × ByteArray) (t7 : List (Int × ByteArray)) (t8 : Int) (t9 : Int) : Option (Bool) := fixP spec_l6Group.E spec_l6Group.T spec_l6Group.C spec_l6Group.K 15 spec_l6Group.D15 (g, t3, r, t7, t8, t9)
noncomputable def spec_l6Group.f (g : Int × Int × List (Int × ByteArray)) : Option (Bool) := Fn spec_l6Group.E spec_l6Group.T spec_l6Group.C spec_l6Group.P spec_l6Group.R spec_l6Group.X g
theorem spec_l6Group.l6_eq (g : Int × Int × List (Int × ByteArray)) (t3 : Bool) (t7 : List (Int × ByteArray)) (t8 : Int) (t9 : Int) : spec_l6Group.l6 g t3 t7 t8 t9 =
  (bif (decide (t9 < t8)) then (bif ((decide (0 ≤ t9)) && (decide (t9 < (t7.length : Int)))) then ((spec_l1In.f (t7.getD (t9).toNat (0, em)).1 1 3).bind fun y1 =>
    bif (!y1) then (some false) else
    ((spec_l1Line.f (t7.getD (t9).toNat (0, em)).2).bind fun y2 =>
     bif (!y2) then (some false) else
     (bif (decide (t9 > 0)) then (bif (decide ((t7.getD (t9).toNat (0, em)).1 = 2)) then (bif ((decide (0 ≤ (w64 (t9 - 1)))) && (decide ((w64 (t9 - 1)) < (g.2.2.length : Int)))) then (bif (decide ((g.2.2.getD ((w64 (t9 - 1))).toNat (0, em)).1 = 3)) then (some false) else
         (spec_l6Group.l15 g t3 (t7.getD (t9).toNat (0, em)) t7 t8 t9)) else none) else
       (spec_l6Group.l15 g t3 (t7.getD (t9).toNat (0, em)) t7 t8 t9)) else
      (spec_l6Group.l15 g t3 (t7.getD (t9).toNat (0, em)) t7 t8 t9)))) else none) else
  (bif t3 then ((spec_l1In.f g.1 0 999).bind fun y1 =>
    bif y1 then ((spec_l1In.f g.2.1 0 999).bind fun y2 =>
     bif y2 then ((spec_l6Old.f g).bind fun y3 =>
      bif (decide ((w64 (g.1 + (y3.length : Int))) ≤ 1000)) then ((spec_l6New.f g).bind fun y4 =>
       bif (decide ((w64 (g.2.1 + (y4.length : Int))) ≤ 1000)) then (bif (decide ((g.2.2.length : Int) ≤ 80)) then ((spec_l6Old.f g).bind fun y5 =>
         (spec_l5Lines.f y5).bind fun y6 =>
         bif y6 then ((spec_l6New.f g).bind fun y7 =>
          (spec_l5Lines.f y7).bind fun y8 =>
          some y8) else (some false)) else (some false)) else (some false)) else (some false)) else (some false)) else (some false)) else (some false))) :=
  (fixP_eq spec_l6Group.E spec_l6Group.T spec_l6Group.C spec_l6Group.K 6 spec_l6Group.D6 (g, t3, t7, t8, t9)).trans (by kernel_rfl)
theorem spec_l6Group.l15_eq (g : Int × Int × List (Int × ByteArray)) (t3 : Bool) (r : Int × ByteArray) (t7 : List (Int × ByteArray)) (t8 : Int) (t9 : Int) : spec_l6Group.l15 g t3 r t7 t8 t9 =
  (bif t3 then (spec_l6Group.l6 g true t7 t8 (w64 (t9 + 1))) else
  (spec_l6Group.l6 g (!(decide (r.1 = 1))) t7 t8 (w64 (t9 + 1)))) :=
  (fixP_eq spec_l6Group.E spec_l6Group.T spec_l6Group.C spec_l6Group.K 15 spec_l6Group.D15 (g, t3, r, t7, t8, t9)).trans (by kernel_rfl)
theorem spec_l6Group.f_eq (g : Int × Int × List (Int × ByteArray)) : spec_l6Group.f g =
  (spec_l6Group.l6 g false g.2.2 (g.2.2.length : Int) 0) := by kernel_rfl
noncomputable def spec_l6Group.S : Abs.Sum := ⟨spec_l6Group.P, spec_l6Group.R, fun _ => Fn spec_l6Group.E spec_l6Group.T spec_l6Group.C spec_l6Group.P spec_l6Group.R spec_l6Group.X⟩
theorem spec_l6Group.meets : Meets Try.prog 85 spec_l6Group.S := meets_tab (S := spec_l6Group.U) tabOk_all (AllMeets.cons spec_l1In.meets (AllMeets.cons spec_l1Line.meets (AllMeets.cons spec_l6Old.meets (AllMeets.cons spec_l6New.meets (AllMeets.cons spec_l5Lines.meets AllMeets.nil))))) (AllStill.cons (fun _ _ _ => rfl) (AllStill.cons (fun _ _ _ => rfl) (AllStill.cons (fun _ _ _ => rfl) (AllStill.cons (fun _ _ _ => rfl) (AllStill.cons (fun _ _ _ => rfl) AllStill.nil))))) follows (by kernel_rfl : Try.prog.funcs[85]? = some Try.f85) (by kernel_rfl) (by kernel_rfl) (by kernel_rfl)
noncomputable def impl_sideOf.C : Code := Try.f148.body.getD .skip
def impl_sideOf.P : Par := (.cons (.val (.list (.pair (.int .i64) (.one .str)))) (.cons (.val (.int .i64)) .nil))
noncomputable def impl_sideOf.U : SumTab := []
noncomputable def impl_sideOf.E : Env := mkEnv TY AR impl_sideOf.U
def impl_sideOf.D6 : CutD := ⟨[1, 5, 9, 10, 11], (.cons (.val (.int .i64)) (.cons (.own 9 .str) (.cons (.val (.list (.pair (.int .i64) (.one .str)))) (.cons (.val (.int .i64)) (.cons (.val (.int .i64)) .nil)))))⟩
noncomputable def impl_sideOf.T : Tab := fun k => look k [(6, impl_sideOf.D6)]
def impl_sideOf.R : List (Nat × Ty) := [(9, .list .str)]
def impl_sideOf.X : List ResultVar := [.tmp 4]
noncomputable def impl_sideOf.K := fin impl_sideOf.E ⟨impl_sideOf.P, impl_sideOf.R, fun _ _ => none⟩ impl_sideOf.X impl_sideOf.P.len 0
noncomputable def impl_sideOf.l6 (not : Int) (out : List ByteArray) (t9 : List (Int × ByteArray)) (t10 : Int) (t11 : Int) : Option ((List ByteArray)) := fixP impl_sideOf.E impl_sideOf.T impl_sideOf.C impl_sideOf.K 6 impl_sideOf.D6 (not, out, t9, t10, t11)
noncomputable def impl_sideOf.f (rows : List (Int × ByteArray)) (not : Int) : Option ((List ByteArray)) := Fn impl_sideOf.E impl_sideOf.T impl_sideOf.C impl_sideOf.P impl_sideOf.R impl_sideOf.X (rows, not)
theorem impl_sideOf.l6_eq (not : Int) (out : List ByteArray) (t9 : List (Int × ByteArray)) (t10 : Int) (t11 : Int) : impl_sideOf.l6 not out t9 t10 t11 =
  (bif (decide (t11 < t10)) then (bif ((decide (0 ≤ t11)) && (decide (t11 < (t9.length : Int)))) then (bif (!(decide ((t9.getD (t11).toNat (0, em)).1 = not))) then (bif (decide ((out.length + [(t9.getD (t11).toNat (0, em)).2].length) ≤ room 16)) then (impl_sideOf.l6 not (out ++ [(t9.getD (t11).toNat (0, em)).2]) t9 t10 (w64 (t11 + 1))) else none) else
    (impl_sideOf.l6 not out t9 t10 (w64 (t11 + 1)))) else none) else (some out)) :=
  (fixP_eq impl_sideOf.E impl_sideOf.T impl_sideOf.C impl_sideOf.K 6 impl_sideOf.D6 (not, out, t9, t10, t11)).trans (by kernel_rfl)
theorem impl_sideOf.f_eq (rows : List (Int × ByteArray)) (not : Int) : impl_sideOf.f rows not =
  (impl_sideOf.l6 not ([] : List ByteArray) rows (rows.length : Int) 0) := by kernel_rfl
noncomputable def impl_sideOf.S : Abs.Sum := ⟨impl_sideOf.P, impl_sideOf.R, fun _ => Fn impl_sideOf.E impl_sideOf.T impl_sideOf.C impl_sideOf.P impl_sideOf.R impl_sideOf.X⟩
theorem impl_sideOf.meets : Meets Try.prog 148 impl_sideOf.S := meets_tab (S := impl_sideOf.U) tabOk_all AllMeets.nil AllStill.nil follows (by kernel_rfl : Try.prog.funcs[148]? = some Try.f148) (by kernel_rfl) (by kernel_rfl) (by kernel_rfl)
noncomputable def impl_Group_old.C : Code := Try.f89.body.getD .skip
def impl_Group_old.P : Par := (.cons (.val (.pair (.int .i64) (.pair (.int .i64) (.one (.list (.pair (.int .i64) (.one .str))))))) .nil)
noncomputable def impl_Group_old.U : SumTab := [(148, [], impl_sideOf.S)]
noncomputable def impl_Group_old.E : Env := mkEnv TY AR impl_Group_old.U
noncomputable def impl_Group_old.T : Tab := fun k => look k []
def impl_Group_old.R : List (Nat × Ty) := [(9, .list .str)]
def impl_Group_old.X : List ResultVar := [.tmp 2]
noncomputable def impl_Group_old.f (g : Int × Int × List (Int × ByteArray)) : Option ((List ByteArray)) := Fn impl_Group_old.E impl_Group_old.T impl_Group_old.C impl_Group_old.P impl_Group_old.R impl_Group_old.X g
theorem impl_Group_old.f_eq (g : Int × Int × List (Int × ByteArray)) : impl_Group_old.f g =
  ((impl_sideOf.f g.2.2 3).bind fun y1 =>
  some y1) := by kernel_rfl
noncomputable def impl_Group_old.S : Abs.Sum := ⟨impl_Group_old.P, impl_Group_old.R, fun _ => Fn impl_Group_old.E impl_Group_old.T impl_Group_old.C impl_Group_old.P impl_Group_old.R impl_Group_old.X⟩
theorem impl_Group_old.meets : Meets Try.prog 89 impl_Group_old.S := meets_tab (S := impl_Group_old.U) tabOk_all (AllMeets.cons impl_sideOf.meets AllMeets.nil) (AllStill.cons (fun _ _ _ => rfl) AllStill.nil) follows (by kernel_rfl : Try.prog.funcs[89]? = some Try.f89) (by kernel_rfl) (by kernel_rfl) (by kernel_rfl)
noncomputable def impl_Group_fresh.C : Code := Try.f147.body.getD .skip
def impl_Group_fresh.P : Par := (.cons (.val (.pair (.int .i64) (.pair (.int .i64) (.one (.list (.pair (.int .i64) (.one .str))))))) .nil)
noncomputable def impl_Group_fresh.U : SumTab := [(148, [], impl_sideOf.S)]
noncomputable def impl_Group_fresh.E : Env := mkEnv TY AR impl_Group_fresh.U
noncomputable def impl_Group_fresh.T : Tab := fun k => look k []
def impl_Group_fresh.R : List (Nat × Ty) := [(9, .list .str)]
def impl_Group_fresh.X : List ResultVar := [.tmp 2]
noncomputable def impl_Group_fresh.f (g : Int × Int × List (Int × ByteArray)) : Option ((List ByteArray)) := Fn impl_Group_fresh.E impl_Group_fresh.T impl_Group_fresh.C impl_Group_fresh.P impl_Group_fresh.R impl_Group_fresh.X g
theorem impl_Group_fresh.f_eq (g : Int × Int × List (Int × ByteArray)) : impl_Group_fresh.f g =
  ((impl_sideOf.f g.2.2 2).bind fun y1 =>
  some y1) := by kernel_rfl
noncomputable def impl_Group_fresh.S : Abs.Sum := ⟨impl_Group_fresh.P, impl_Group_fresh.R, fun _ => Fn impl_Group_fresh.E impl_Group_fresh.T impl_Group_fresh.C impl_Group_fresh.P impl_Group_fresh.R impl_Group_fresh.X⟩
theorem impl_Group_fresh.meets : Meets Try.prog 147 impl_Group_fresh.S := meets_tab (S := impl_Group_fresh.U) tabOk_all (AllMeets.cons impl_sideOf.meets AllMeets.nil) (AllStill.cons (fun _ _ _ => rfl) AllStill.nil) follows (by kernel_rfl : Try.prog.funcs[147]? = some Try.f147) (by kernel_rfl) (by kernel_rfl) (by kernel_rfl)
noncomputable def impl_goodGroup.C : Code := Try.f88.body.getD .skip
def impl_goodGroup.P : Par := (.cons (.val (.pair (.int .i64) (.pair (.int .i64) (.one (.list (.pair (.int .i64) (.one .str))))))) .nil)
noncomputable def impl_goodGroup.U : SumTab := [(104, [], impl_in.S), (137, [], impl_isLine.S), (89, [], impl_Group_old.S), (147, [], impl_Group_fresh.S), (78, [], impl_goodLines.S)]
noncomputable def impl_goodGroup.E : Env := mkEnv TY AR impl_goodGroup.U
def impl_goodGroup.D7 : CutD := ⟨[1], (.cons (.box 0 (.pair (.int .i64) (.pair (.int .i64) (.one (.list (.pair (.int .i64) (.one .str))))))) .nil)⟩
def impl_goodGroup.D10 : CutD := ⟨[1, 3, 26, 27, 28], (.cons (.box 0 (.pair (.int .i64) (.pair (.int .i64) (.one (.list (.pair (.int .i64) (.one .str))))))) (.cons (.val .bool) (.cons (.val (.list (.pair (.int .i64) (.one .str)))) (.cons (.val (.int .i64)) (.cons (.val (.int .i64)) .nil)))))⟩
def impl_goodGroup.D19 : CutD := ⟨[1, 3, 5, 26, 27, 28], (.cons (.box 0 (.pair (.int .i64) (.pair (.int .i64) (.one (.list (.pair (.int .i64) (.one .str))))))) (.cons (.val .bool) (.cons (.box 9 (.pair (.int .i64) (.one .str))) (.cons (.val (.list (.pair (.int .i64) (.one .str)))) (.cons (.val (.int .i64)) (.cons (.val (.int .i64)) .nil))))))⟩
noncomputable def impl_goodGroup.T : Tab := fun k => look k [(7, impl_goodGroup.D7), (10, impl_goodGroup.D10), (19, impl_goodGroup.D19)]
def impl_goodGroup.R : List (Nat × Ty) := [(0, .bool)]
def impl_goodGroup.X : List ResultVar := [.tmp 2]
noncomputable def impl_goodGroup.K := fin impl_goodGroup.E ⟨impl_goodGroup.P, impl_goodGroup.R, fun _ _ => none⟩ impl_goodGroup.X impl_goodGroup.P.len 0
noncomputable def impl_goodGroup.l7 (g : Int × Int × List (Int × ByteArray)) : Option (Bool) := fixP impl_goodGroup.E impl_goodGroup.T impl_goodGroup.C impl_goodGroup.K 7 impl_goodGroup.D7 g
noncomputable def impl_goodGroup.l10 (g : Int × Int × List (Int × ByteArray)) (changes : Bool) (t26 : List (Int × ByteArray)) (t27 : Int) (t28 : Int) : Option (Bool) := fixP impl_goodGroup.E impl_goodGroup.T impl_goodGroup.C impl_goodGroup.K 10 impl_goodGroup.D10 (g, changes, t26, t27, t28)
noncomputable def impl_goodGroup.l19 (g : Int × Int × List (Int × ByteArray)) (changes : Bool) (r : Int × ByteArray) (t26 : List (Int × ByteArray)) (t27 : Int) (t28 : Int) : Option (Bool) := fixP impl_goodGroup.E impl_goodGroup.T impl_goodGroup.C impl_goodGroup.K 19 impl_goodGroup.D19 (g, changes, r, t26, t27, t28)
noncomputable def impl_goodGroup.f (g : Int × Int × List (Int × ByteArray)) : Option (Bool) := Fn impl_goodGroup.E impl_goodGroup.T impl_goodGroup.C impl_goodGroup.P impl_goodGroup.R impl_goodGroup.X g
theorem impl_goodGroup.l7_eq (g : Int × Int × List (Int × ByteArray)) : impl_goodGroup.l7 g =
  (impl_goodGroup.l10 g false g.2.2 (g.2.2.length : Int) 0) :=
  (fixP_eq impl_goodGroup.E impl_goodGroup.T impl_goodGroup.C impl_goodGroup.K 7 impl_goodGroup.D7 g).trans (by kernel_rfl)
theorem impl_goodGroup.l10_eq (g : Int × Int × List (Int × ByteArray)) (changes : Bool) (t26 : List (Int × ByteArray)) (t27 : Int) (t28 : Int) : impl_goodGroup.l10 g changes t26 t27 t28 =
  (bif (decide (t28 < t27)) then (bif ((decide (0 ≤ t28)) && (decide (t28 < (t26.length : Int)))) then ((impl_in.f (t26.getD (t28).toNat (0, em)).1 1 3).bind fun y1 =>
    bif (!y1) then (some false) else
    ((impl_isLine.f (t26.getD (t28).toNat (0, em)).2).bind fun y2 =>
     bif (!y2) then (some false) else
     (bif (decide (t28 > 0)) then (bif (decide ((t26.getD (t28).toNat (0, em)).1 = 2)) then (bif ((decide (0 ≤ (w64 (t28 - 1)))) && (decide ((w64 (t28 - 1)) < (g.2.2.length : Int)))) then (bif (decide ((g.2.2.getD ((w64 (t28 - 1))).toNat (0, em)).1 = 3)) then (some false) else
         (impl_goodGroup.l19 g changes (t26.getD (t28).toNat (0, em)) t26 t27 t28)) else none) else
       (impl_goodGroup.l19 g changes (t26.getD (t28).toNat (0, em)) t26 t27 t28)) else
      (impl_goodGroup.l19 g changes (t26.getD (t28).toNat (0, em)) t26 t27 t28)))) else none) else
  ((impl_Group_old.f g).bind fun y1 =>
   (impl_Group_fresh.f g).bind fun y2 =>
   bif changes then ((impl_goodLines.f y1).bind fun y3 =>
    bif y3 then ((impl_goodLines.f y2).bind fun y4 =>
     bif y4 then (bif (decide ((w64 (g.1 + (y1.length : Int))) ≤ 1000)) then (some (decide ((w64 (g.2.1 + (y2.length : Int))) ≤ 1000))) else (some false)) else (some false)) else (some false)) else (some false))) :=
  (fixP_eq impl_goodGroup.E impl_goodGroup.T impl_goodGroup.C impl_goodGroup.K 10 impl_goodGroup.D10 (g, changes, t26, t27, t28)).trans (by kernel_rfl)
theorem impl_goodGroup.l19_eq (g : Int × Int × List (Int × ByteArray)) (changes : Bool) (r : Int × ByteArray) (t26 : List (Int × ByteArray)) (t27 : Int) (t28 : Int) : impl_goodGroup.l19 g changes r t26 t27 t28 =
  (bif changes then (impl_goodGroup.l10 g true t26 t27 (w64 (t28 + 1))) else
  (impl_goodGroup.l10 g (!(decide (r.1 = 1))) t26 t27 (w64 (t28 + 1)))) :=
  (fixP_eq impl_goodGroup.E impl_goodGroup.T impl_goodGroup.C impl_goodGroup.K 19 impl_goodGroup.D19 (g, changes, r, t26, t27, t28)).trans (by kernel_rfl)
theorem impl_goodGroup.f_eq (g : Int × Int × List (Int × ByteArray)) : impl_goodGroup.f g =
  ((impl_in.f g.1 0 999).bind fun y1 =>
  bif (!y1) then (some false) else
  ((impl_in.f g.2.1 0 999).bind fun y2 =>
   bif (!y2) then (some false) else
   ((impl_in.f (g.2.2.length : Int) 1 80).bind fun y3 =>
    bif (!y3) then (some false) else
    (impl_goodGroup.l7 g)))) := by kernel_rfl
noncomputable def impl_goodGroup.S : Abs.Sum := ⟨impl_goodGroup.P, impl_goodGroup.R, fun _ => Fn impl_goodGroup.E impl_goodGroup.T impl_goodGroup.C impl_goodGroup.P impl_goodGroup.R impl_goodGroup.X⟩
theorem impl_goodGroup.meets : Meets Try.prog 88 impl_goodGroup.S := meets_tab (S := impl_goodGroup.U) tabOk_all (AllMeets.cons impl_in.meets (AllMeets.cons impl_isLine.meets (AllMeets.cons impl_Group_old.meets (AllMeets.cons impl_Group_fresh.meets (AllMeets.cons impl_goodLines.meets AllMeets.nil))))) (AllStill.cons (fun _ _ _ => rfl) (AllStill.cons (fun _ _ _ => rfl) (AllStill.cons (fun _ _ _ => rfl) (AllStill.cons (fun _ _ _ => rfl) (AllStill.cons (fun _ _ _ => rfl) AllStill.nil))))) follows (by kernel_rfl : Try.prog.funcs[88]? = some Try.f88) (by kernel_rfl) (by kernel_rfl) (by kernel_rfl)
noncomputable def laws_eqRow.C : Code := Try.f149.body.getD .skip
def laws_eqRow.P : Par := (.cons (.val (.pair (.int .i64) (.one .str))) (.cons (.val (.pair (.int .i64) (.one .str))) .nil))
noncomputable def laws_eqRow.U : SumTab := []
noncomputable def laws_eqRow.E : Env := mkEnv TY AR laws_eqRow.U
noncomputable def laws_eqRow.T : Tab := fun k => look k []
def laws_eqRow.R : List (Nat × Ty) := [(0, .bool)]
def laws_eqRow.X : List ResultVar := [.tmp 4]
noncomputable def laws_eqRow.f (a : Int × ByteArray) (b : Int × ByteArray) : Option (Bool) := Fn laws_eqRow.E laws_eqRow.T laws_eqRow.C laws_eqRow.P laws_eqRow.R laws_eqRow.X (a, b)
theorem laws_eqRow.f_eq (a : Int × ByteArray) (b : Int × ByteArray) : laws_eqRow.f a b =
  (bif (!(decide (a.1 = b.1))) then (some false) else
  (bif (!(a.2.toList == b.2.toList)) then (some false) else (some true))) := by kernel_rfl
noncomputable def laws_eqRow.S : Abs.Sum := ⟨laws_eqRow.P, laws_eqRow.R, fun _ => Fn laws_eqRow.E laws_eqRow.T laws_eqRow.C laws_eqRow.P laws_eqRow.R laws_eqRow.X⟩
theorem laws_eqRow.meets : Meets Try.prog 149 laws_eqRow.S := meets_tab (S := laws_eqRow.U) tabOk_all AllMeets.nil AllStill.nil follows (by kernel_rfl : Try.prog.funcs[149]? = some Try.f149) (by kernel_rfl) (by kernel_rfl) (by kernel_rfl)
noncomputable def laws_eqRowS.C : Code := Try.f90.body.getD .skip
def laws_eqRowS.P : Par := (.cons (.val (.list (.pair (.int .i64) (.one .str)))) (.cons (.val (.list (.pair (.int .i64) (.one .str)))) .nil))
noncomputable def laws_eqRowS.U : SumTab := [(149, [], laws_eqRow.S)]
noncomputable def laws_eqRowS.E : Env := mkEnv TY AR laws_eqRowS.U
def laws_eqRowS.D8 : CutD := ⟨[0, 1, 5], (.cons (.val (.list (.pair (.int .i64) (.one .str)))) (.cons (.val (.list (.pair (.int .i64) (.one .str)))) (.cons (.val (.int .i64)) .nil)))⟩
noncomputable def laws_eqRowS.T : Tab := fun k => look k [(8, laws_eqRowS.D8)]
def laws_eqRowS.R : List (Nat × Ty) := [(0, .bool)]
def laws_eqRowS.X : List ResultVar := [.tmp 4]
noncomputable def laws_eqRowS.K := fin laws_eqRowS.E ⟨laws_eqRowS.P, laws_eqRowS.R, fun _ _ => none⟩ laws_eqRowS.X laws_eqRowS.P.len 0
noncomputable def laws_eqRowS.l8 (a : List (Int × ByteArray)) (b : List (Int × ByteArray)) (i : Int) : Option (Bool) := fixP laws_eqRowS.E laws_eqRowS.T laws_eqRowS.C laws_eqRowS.K 8 laws_eqRowS.D8 (a, b, i)
noncomputable def laws_eqRowS.f (a : List (Int × ByteArray)) (b : List (Int × ByteArray)) : Option (Bool) := Fn laws_eqRowS.E laws_eqRowS.T laws_eqRowS.C laws_eqRowS.P laws_eqRowS.R laws_eqRowS.X (a, b)
theorem laws_eqRowS.l8_eq (a : List (Int × ByteArray)) (b : List (Int × ByteArray)) (i : Int) : laws_eqRowS.l8 a b i =
  (bif (decide (i < (a.length : Int))) then (bif ((decide (0 ≤ i)) && (decide (i < (a.length : Int)))) then (bif ((decide (0 ≤ i)) && (decide (i < (b.length : Int)))) then ((laws_eqRow.f (a.getD (i).toNat (0, em)) (b.getD (i).toNat (0, em))).bind fun y1 =>
     bif (!y1) then (some false) else
     (laws_eqRowS.l8 a b (w64 (i + 1)))) else none) else none) else (some true)) :=
  (fixP_eq laws_eqRowS.E laws_eqRowS.T laws_eqRowS.C laws_eqRowS.K 8 laws_eqRowS.D8 (a, b, i)).trans (by kernel_rfl)
theorem laws_eqRowS.f_eq (a : List (Int × ByteArray)) (b : List (Int × ByteArray)) : laws_eqRowS.f a b =
  (bif (!(decide ((a.length : Int) = (b.length : Int)))) then (some false) else
  (laws_eqRowS.l8 a b 0)) := by kernel_rfl
noncomputable def laws_eqRowS.S : Abs.Sum := ⟨laws_eqRowS.P, laws_eqRowS.R, fun _ => Fn laws_eqRowS.E laws_eqRowS.T laws_eqRowS.C laws_eqRowS.P laws_eqRowS.R laws_eqRowS.X⟩
theorem laws_eqRowS.meets : Meets Try.prog 90 laws_eqRowS.S := meets_tab (S := laws_eqRowS.U) tabOk_all (AllMeets.cons laws_eqRow.meets AllMeets.nil) (AllStill.cons (fun _ _ _ => rfl) AllStill.nil) follows (by kernel_rfl : Try.prog.funcs[90]? = some Try.f90) (by kernel_rfl) (by kernel_rfl) (by kernel_rfl)
noncomputable def laws_eqGroup.C : Code := Try.f29.body.getD .skip
def laws_eqGroup.P : Par := (.cons (.val (.pair (.int .i64) (.pair (.int .i64) (.one (.list (.pair (.int .i64) (.one .str))))))) (.cons (.val (.pair (.int .i64) (.pair (.int .i64) (.one (.list (.pair (.int .i64) (.one .str))))))) .nil))
noncomputable def laws_eqGroup.U : SumTab := [(90, [], laws_eqRowS.S)]
noncomputable def laws_eqGroup.E : Env := mkEnv TY AR laws_eqGroup.U
noncomputable def laws_eqGroup.T : Tab := fun k => look k []
def laws_eqGroup.R : List (Nat × Ty) := [(0, .bool)]
def laws_eqGroup.X : List ResultVar := [.tmp 4]
noncomputable def laws_eqGroup.f (a : Int × Int × List (Int × ByteArray)) (b : Int × Int × List (Int × ByteArray)) : Option (Bool) := Fn laws_eqGroup.E laws_eqGroup.T laws_eqGroup.C laws_eqGroup.P laws_eqGroup.R laws_eqGroup.X (a, b)
theorem laws_eqGroup.f_eq (a : Int × Int × List (Int × ByteArray)) (b : Int × Int × List (Int × ByteArray)) : laws_eqGroup.f a b =
  (bif (!(decide (a.1 = b.1))) then (some false) else
  (bif (!(decide (a.2.1 = b.2.1))) then (some false) else
   ((laws_eqRowS.f a.2.2 b.2.2).bind fun y1 =>
    bif (!y1) then (some false) else (some true)))) := by kernel_rfl
noncomputable def laws_eqGroup.S : Abs.Sum := ⟨laws_eqGroup.P, laws_eqGroup.R, fun _ => Fn laws_eqGroup.E laws_eqGroup.T laws_eqGroup.C laws_eqGroup.P laws_eqGroup.R laws_eqGroup.X⟩
theorem laws_eqGroup.meets : Meets Try.prog 29 laws_eqGroup.S := meets_tab (S := laws_eqGroup.U) tabOk_all (AllMeets.cons laws_eqRowS.meets AllMeets.nil) (AllStill.cons (fun _ _ _ => rfl) AllStill.nil) follows (by kernel_rfl : Try.prog.funcs[29]? = some Try.f29) (by kernel_rfl) (by kernel_rfl) (by kernel_rfl)
noncomputable def laws_markRowS.C : Code := Try.f92.body.getD .skip
def laws_markRowS.P : Par := (.cons (.io 9 (.pair (.int .i64) (.one .str))) (.cons (.val (.int .i64)) .nil))
noncomputable def laws_markRowS.U : SumTab := [(81, [], laws_markText.S)]
noncomputable def laws_markRowS.E : Env := mkEnv TY AR laws_markRowS.U
def laws_markRowS.D4 : CutD := ⟨[0, 1, 5], (.cons (.own 9 (.pair (.int .i64) (.one .str))) (.cons (.val (.int .i64)) (.cons (.val (.int .i64)) .nil)))⟩
noncomputable def laws_markRowS.T : Tab := fun k => look k [(4, laws_markRowS.D4)]
def laws_markRowS.R : List (Nat × Ty) := [(0, .int .i64)]
def laws_markRowS.X : List ResultVar := [.tmp 4]
noncomputable def laws_markRowS.K := fin laws_markRowS.E ⟨laws_markRowS.P, laws_markRowS.R, fun _ _ => none⟩ laws_markRowS.X laws_markRowS.P.len 0
noncomputable def laws_markRowS.l4 (a : List (Int × ByteArray)) (k : Int) (i : Int) : Option (Int × (List (Int × ByteArray))) := fixP laws_markRowS.E laws_markRowS.T laws_markRowS.C laws_markRowS.K 4 laws_markRowS.D4 (a, k, i)
noncomputable def laws_markRowS.f (a : List (Int × ByteArray)) (k : Int) : Option (Int × (List (Int × ByteArray))) := Fn laws_markRowS.E laws_markRowS.T laws_markRowS.C laws_markRowS.P laws_markRowS.R laws_markRowS.X (a, k)
theorem laws_markRowS.l4_eq (a : List (Int × ByteArray)) (k : Int) (i : Int) : laws_markRowS.l4 a k i =
  (bif (decide (i < (a.length : Int))) then (bif ((decide (0 ≤ i)) && (decide (i < (a.length : Int)))) then ((laws_markText.f (w64 (k + 1))).bind fun y1 =>
    bif ((decide (0 ≤ i)) && (decide (i < ((a.set (i).toNat (k, (a.getD (i).toNat (0, em)).2)).length : Int)))) then (laws_markRowS.l4 ((a.set (i).toNat (k, (a.getD (i).toNat (0, em)).2)).set (i).toNat (((a.set (i).toNat (k, (a.getD (i).toNat (0, em)).2)).getD (i).toNat (0, em)).1, y1)) (w64 ((w64 (k + 1)) + 1)) (w64 (i + 1))) else none) else none) else (some (k, a))) :=
  (fixP_eq laws_markRowS.E laws_markRowS.T laws_markRowS.C laws_markRowS.K 4 laws_markRowS.D4 (a, k, i)).trans (by kernel_rfl)
theorem laws_markRowS.f_eq (a : List (Int × ByteArray)) (k : Int) : laws_markRowS.f a k =
  (laws_markRowS.l4 a k 0) := by kernel_rfl
noncomputable def laws_markRowS.S : Abs.Sum := ⟨laws_markRowS.P, laws_markRowS.R, fun _ => Fn laws_markRowS.E laws_markRowS.T laws_markRowS.C laws_markRowS.P laws_markRowS.R laws_markRowS.X⟩
theorem laws_markRowS.meets : Meets Try.prog 92 laws_markRowS.S := meets_tab (S := laws_markRowS.U) tabOk_all (AllMeets.cons laws_markText.meets AllMeets.nil) (AllStill.cons (fun _ _ _ => rfl) AllStill.nil) follows (by kernel_rfl : Try.prog.funcs[92]? = some Try.f92) (by kernel_rfl) (by kernel_rfl) (by kernel_rfl)
noncomputable def laws_heldRowS.C : Code := Try.f93.body.getD .skip
def laws_heldRowS.P : Par := (.cons (.val (.list (.pair (.int .i64) (.one .str)))) (.cons (.val (.int .i64)) .nil))
noncomputable def laws_heldRowS.U : SumTab := [(81, [], laws_markText.S)]
noncomputable def laws_heldRowS.E : Env := mkEnv TY AR laws_heldRowS.U
def laws_heldRowS.D4 : CutD := ⟨[0, 1, 5], (.cons (.val (.list (.pair (.int .i64) (.one .str)))) (.cons (.val (.int .i64)) (.cons (.val (.int .i64)) .nil)))⟩
noncomputable def laws_heldRowS.T : Tab := fun k => look k [(4, laws_heldRowS.D4)]
def laws_heldRowS.R : List (Nat × Ty) := [(0, .int .i64)]
def laws_heldRowS.X : List ResultVar := [.tmp 4]
noncomputable def laws_heldRowS.K := fin laws_heldRowS.E ⟨laws_heldRowS.P, laws_heldRowS.R, fun _ _ => none⟩ laws_heldRowS.X laws_heldRowS.P.len 0
noncomputable def laws_heldRowS.l4 (a : List (Int × ByteArray)) (k : Int) (i : Int) : Option (Int) := fixP laws_heldRowS.E laws_heldRowS.T laws_heldRowS.C laws_heldRowS.K 4 laws_heldRowS.D4 (a, k, i)
noncomputable def laws_heldRowS.f (a : List (Int × ByteArray)) (k : Int) : Option (Int) := Fn laws_heldRowS.E laws_heldRowS.T laws_heldRowS.C laws_heldRowS.P laws_heldRowS.R laws_heldRowS.X (a, k)
theorem laws_heldRowS.l4_eq (a : List (Int × ByteArray)) (k : Int) (i : Int) : laws_heldRowS.l4 a k i =
  (bif (decide (i < (a.length : Int))) then (bif ((decide (0 ≤ i)) && (decide (i < (a.length : Int)))) then (bif (!(decide ((a.getD (i).toNat (0, em)).1 = k))) then (some (-1)) else
    (bif ((decide (0 ≤ i)) && (decide (i < (a.length : Int)))) then ((laws_markText.f (w64 (k + 1))).bind fun y1 =>
      bif (!((a.getD (i).toNat (0, em)).2.toList == y1.toList)) then (some (-1)) else
      (laws_heldRowS.l4 a (w64 ((w64 (k + 1)) + 1)) (w64 (i + 1)))) else none)) else none) else (some k)) :=
  (fixP_eq laws_heldRowS.E laws_heldRowS.T laws_heldRowS.C laws_heldRowS.K 4 laws_heldRowS.D4 (a, k, i)).trans (by kernel_rfl)
theorem laws_heldRowS.f_eq (a : List (Int × ByteArray)) (k : Int) : laws_heldRowS.f a k =
  (laws_heldRowS.l4 a k 0) := by kernel_rfl
noncomputable def laws_heldRowS.S : Abs.Sum := ⟨laws_heldRowS.P, laws_heldRowS.R, fun _ => Fn laws_heldRowS.E laws_heldRowS.T laws_heldRowS.C laws_heldRowS.P laws_heldRowS.R laws_heldRowS.X⟩
theorem laws_heldRowS.meets : Meets Try.prog 93 laws_heldRowS.S := meets_tab (S := laws_heldRowS.U) tabOk_all (AllMeets.cons laws_markText.meets AllMeets.nil) (AllStill.cons (fun _ _ _ => rfl) AllStill.nil) follows (by kernel_rfl : Try.prog.funcs[93]? = some Try.f93) (by kernel_rfl) (by kernel_rfl) (by kernel_rfl)
noncomputable def laws_szGroupS.C : Code := Try.f41.body.getD .skip
def laws_szGroupS.P : Par := (.cons (.val (.list (.pair (.int .i64) (.pair (.int .i64) (.one (.list (.pair (.int .i64) (.one .str)))))))) (.cons (.val (.int .i64)) .nil))
noncomputable def laws_szGroupS.U : SumTab := [(25, [], laws_szGroup.S)]
noncomputable def laws_szGroupS.E : Env := mkEnv TY AR laws_szGroupS.U
def laws_szGroupS.D10 : CutD := ⟨[0, 1, 5], (.cons (.val (.list (.pair (.int .i64) (.pair (.int .i64) (.one (.list (.pair (.int .i64) (.one .str)))))))) (.cons (.val (.int .i64)) (.cons (.val (.int .i64)) .nil)))⟩
noncomputable def laws_szGroupS.T : Tab := fun k => look k [(10, laws_szGroupS.D10)]
def laws_szGroupS.R : List (Nat × Ty) := [(0, .int .i64)]
def laws_szGroupS.X : List ResultVar := [.tmp 4]
noncomputable def laws_szGroupS.K := fin laws_szGroupS.E ⟨laws_szGroupS.P, laws_szGroupS.R, fun _ _ => none⟩ laws_szGroupS.X laws_szGroupS.P.len 0
noncomputable def laws_szGroupS.l10 (a : List (Int × Int × List (Int × ByteArray))) (left : Int) (i : Int) : Option (Int) := fixP laws_szGroupS.E laws_szGroupS.T laws_szGroupS.C laws_szGroupS.K 10 laws_szGroupS.D10 (a, left, i)
noncomputable def laws_szGroupS.f (a : List (Int × Int × List (Int × ByteArray))) (left : Int) : Option (Int) := Fn laws_szGroupS.E laws_szGroupS.T laws_szGroupS.C laws_szGroupS.P laws_szGroupS.R laws_szGroupS.X (a, left)
theorem laws_szGroupS.l10_eq (a : List (Int × Int × List (Int × ByteArray))) (left : Int) (i : Int) : laws_szGroupS.l10 a left i =
  (bif (decide (i < (a.length : Int))) then (bif ((decide (0 ≤ i)) && (decide (i < (a.length : Int)))) then ((laws_szGroup.f (a.getD (i).toNat (0, 0, ([] : List (Int × ByteArray)))) left).bind fun y1 =>
    bif (decide (y1 < 0)) then (some (-1)) else
    (laws_szGroupS.l10 a y1 (w64 (i + 1)))) else none) else (some left)) :=
  (fixP_eq laws_szGroupS.E laws_szGroupS.T laws_szGroupS.C laws_szGroupS.K 10 laws_szGroupS.D10 (a, left, i)).trans (by kernel_rfl)
theorem laws_szGroupS.f_eq (a : List (Int × Int × List (Int × ByteArray))) (left : Int) : laws_szGroupS.f a left =
  (bif (decide ((w64 (left - (a.length : Int))) < 0)) then (some (-1)) else
  (laws_szGroupS.l10 a (w64 (left - (a.length : Int))) 0)) := by kernel_rfl
noncomputable def laws_szGroupS.S : Abs.Sum := ⟨laws_szGroupS.P, laws_szGroupS.R, fun _ => Fn laws_szGroupS.E laws_szGroupS.T laws_szGroupS.C laws_szGroupS.P laws_szGroupS.R laws_szGroupS.X⟩
theorem laws_szGroupS.meets : Meets Try.prog 41 laws_szGroupS.S := meets_tab (S := laws_szGroupS.U) tabOk_all (AllMeets.cons laws_szGroup.meets AllMeets.nil) (AllStill.cons (fun _ _ _ => rfl) AllStill.nil) follows (by kernel_rfl : Try.prog.funcs[41]? = some Try.f41) (by kernel_rfl) (by kernel_rfl) (by kernel_rfl)
noncomputable def laws_toGroupS.C : Code := Try.f43.body.getD .skip
def laws_toGroupS.P : Par := (.cons (.val (.list (.pair (.int .i64) (.pair (.int .i64) (.one (.list (.pair (.int .i64) (.one .str)))))))) .nil)
noncomputable def laws_toGroupS.U : SumTab := [(27, [], laws_toGroup.S)]
noncomputable def laws_toGroupS.E : Env := mkEnv TY AR laws_toGroupS.U
def laws_toGroupS.D6 : CutD := ⟨[0, 3, 4], (.cons (.val (.list (.pair (.int .i64) (.pair (.int .i64) (.one (.list (.pair (.int .i64) (.one .str)))))))) (.cons (.own 9 (.pair (.int .i64) (.pair (.int .i64) (.one (.list (.pair (.int .i64) (.one .str))))))) (.cons (.val (.int .i64)) .nil)))⟩
noncomputable def laws_toGroupS.T : Tab := fun k => look k [(6, laws_toGroupS.D6)]
def laws_toGroupS.R : List (Nat × Ty) := [(9, .list (.pair (.int .i64) (.pair (.int .i64) (.one (.list (.pair (.int .i64) (.one .str)))))))]
def laws_toGroupS.X : List ResultVar := [.tmp 2]
noncomputable def laws_toGroupS.K := fin laws_toGroupS.E ⟨laws_toGroupS.P, laws_toGroupS.R, fun _ _ => none⟩ laws_toGroupS.X laws_toGroupS.P.len 0
noncomputable def laws_toGroupS.l6 (a : List (Int × Int × List (Int × ByteArray))) (out : List (Int × Int × List (Int × ByteArray))) (i : Int) : Option ((List (Int × Int × List (Int × ByteArray)))) := fixP laws_toGroupS.E laws_toGroupS.T laws_toGroupS.C laws_toGroupS.K 6 laws_toGroupS.D6 (a, out, i)
noncomputable def laws_toGroupS.f (a : List (Int × Int × List (Int × ByteArray))) : Option ((List (Int × Int × List (Int × ByteArray)))) := Fn laws_toGroupS.E laws_toGroupS.T laws_toGroupS.C laws_toGroupS.P laws_toGroupS.R laws_toGroupS.X a
theorem laws_toGroupS.l6_eq (a : List (Int × Int × List (Int × ByteArray))) (out : List (Int × Int × List (Int × ByteArray))) (i : Int) : laws_toGroupS.l6 a out i =
  (bif (decide (i < (a.length : Int))) then (bif ((decide (0 ≤ i)) && (decide (i < (a.length : Int)))) then ((laws_toGroup.f (a.getD (i).toNat (0, 0, ([] : List (Int × ByteArray))))).bind fun y1 =>
    bif ((decide (0 ≤ i)) && (decide (i < (out.length : Int)))) then (laws_toGroupS.l6 a (out.set (i).toNat (y1.1, y1.2.1, y1.2.2)) (w64 (i + 1))) else none) else none) else (some out)) :=
  (fixP_eq laws_toGroupS.E laws_toGroupS.T laws_toGroupS.C laws_toGroupS.K 6 laws_toGroupS.D6 (a, out, i)).trans (by kernel_rfl)
theorem laws_toGroupS.f_eq (a : List (Int × Int × List (Int × ByteArray))) : laws_toGroupS.f a =
  (bif ((decide (0 ≤ (a.length : Int))) && (decide (((a.length : Int)).toNat ≤ room 40))) then (laws_toGroupS.l6 a (List.replicate ((a.length : Int)).toNat (0, 0, ([] : List (Int × ByteArray)))) 0) else none) := by kernel_rfl
noncomputable def laws_toGroupS.S : Abs.Sum := ⟨laws_toGroupS.P, laws_toGroupS.R, fun _ => Fn laws_toGroupS.E laws_toGroupS.T laws_toGroupS.C laws_toGroupS.P laws_toGroupS.R laws_toGroupS.X⟩
theorem laws_toGroupS.meets : Meets Try.prog 43 laws_toGroupS.S := meets_tab (S := laws_toGroupS.U) tabOk_all (AllMeets.cons laws_toGroup.meets AllMeets.nil) (AllStill.cons (fun _ _ _ => rfl) AllStill.nil) follows (by kernel_rfl : Try.prog.funcs[43]? = some Try.f43) (by kernel_rfl) (by kernel_rfl) (by kernel_rfl)
noncomputable def spec_l6Good.C : Code := Try.f102.body.getD .skip
def spec_l6Good.P : Par := (.cons (.val (.list (.pair (.int .i64) (.pair (.int .i64) (.one (.list (.pair (.int .i64) (.one .str)))))))) .nil)
noncomputable def spec_l6Good.U : SumTab := [(85, [], spec_l6Group.S), (86, [], spec_l6Old.S), (144, [], spec_l6New.S)]
noncomputable def spec_l6Good.E : Env := mkEnv TY AR spec_l6Good.U
def spec_l6Good.D4 : CutD := ⟨[0, 5, 6, 7], (.cons (.val (.list (.pair (.int .i64) (.pair (.int .i64) (.one (.list (.pair (.int .i64) (.one .str)))))))) (.cons (.val (.list (.pair (.int .i64) (.pair (.int .i64) (.one (.list (.pair (.int .i64) (.one .str)))))))) (.cons (.val (.int .i64)) (.cons (.val (.int .i64)) .nil))))⟩
noncomputable def spec_l6Good.T : Tab := fun k => look k [(4, spec_l6Good.D4)]
def spec_l6Good.R : List (Nat × Ty) := [(0, .bool)]
def spec_l6Good.X : List ResultVar := [.tmp 2]
noncomputable def spec_l6Good.K := fin spec_l6Good.E ⟨spec_l6Good.P, spec_l6Good.R, fun _ _ => none⟩ spec_l6Good.X spec_l6Good.P.len 0
noncomputable def spec_l6Good.l4 (g : List (Int × Int × List (Int × ByteArray))) (t5 : List (Int × Int × List (Int × ByteArray))) (t6 : Int) (t7 : Int) : Option (Bool) := fixP spec_l6Good.E spec_l6Good.T spec_l6Good.C spec_l6Good.K 4 spec_l6Good.D4 (g, t5, t6, t7)
noncomputable def spec_l6Good.f (g : List (Int × Int × List (Int × ByteArray))) : Option (Bool) := Fn spec_l6Good.E spec_l6Good.T spec_l6Good.C spec_l6Good.P spec_l6Good.R spec_l6Good.X g
theorem spec_l6Good.l4_eq (g : List (Int × Int × List (Int × ByteArray))) (t5 : List (Int × Int × List (Int × ByteArray))) (t6 : Int) (t7 : Int) : spec_l6Good.l4 g t5 t6 t7 =
  (bif (decide (t7 < t6)) then (bif ((decide (0 ≤ t7)) && (decide (t7 < (t5.length : Int)))) then ((spec_l6Group.f (t5.getD (t7).toNat (0, 0, ([] : List (Int × ByteArray))))).bind fun y1 =>
    bif (!y1) then (some false) else
    (bif (decide (t7 > 0)) then (bif ((decide (0 ≤ (w64 (t7 - 1)))) && (decide ((w64 (t7 - 1)) < (g.length : Int)))) then (bif ((decide (0 ≤ (w64 (t7 - 1)))) && (decide ((w64 (t7 - 1)) < (g.length : Int)))) then ((spec_l6Old.f (g.getD ((w64 (t7 - 1))).toNat (0, 0, ([] : List (Int × ByteArray))))).bind fun y2 =>
        bif (decide ((t5.getD (t7).toNat (0, 0, ([] : List (Int × ByteArray)))).1 < (w64 ((g.getD ((w64 (t7 - 1))).toNat (0, 0, ([] : List (Int × ByteArray)))).1 + (y2.length : Int))))) then (some false) else
        (bif ((decide (0 ≤ (w64 (t7 - 1)))) && (decide ((w64 (t7 - 1)) < (g.length : Int)))) then (bif ((decide (0 ≤ (w64 (t7 - 1)))) && (decide ((w64 (t7 - 1)) < (g.length : Int)))) then ((spec_l6New.f (g.getD ((w64 (t7 - 1))).toNat (0, 0, ([] : List (Int × ByteArray))))).bind fun y3 =>
           bif (decide ((t5.getD (t7).toNat (0, 0, ([] : List (Int × ByteArray)))).2.1 < (w64 ((g.getD ((w64 (t7 - 1))).toNat (0, 0, ([] : List (Int × ByteArray)))).2.1 + (y3.length : Int))))) then (some false) else
           (spec_l6Good.l4 g t5 t6 (w64 (t7 + 1)))) else none) else none)) else none) else none) else
     (spec_l6Good.l4 g t5 t6 (w64 (t7 + 1))))) else none) else (some (decide ((g.length : Int) ≤ 20)))) :=
  (fixP_eq spec_l6Good.E spec_l6Good.T spec_l6Good.C spec_l6Good.K 4 spec_l6Good.D4 (g, t5, t6, t7)).trans (by kernel_rfl)
theorem spec_l6Good.f_eq (g : List (Int × Int × List (Int × ByteArray))) : spec_l6Good.f g =
  (spec_l6Good.l4 g g (g.length : Int) 0) := by kernel_rfl
noncomputable def spec_l6Good.S : Abs.Sum := ⟨spec_l6Good.P, spec_l6Good.R, fun _ => Fn spec_l6Good.E spec_l6Good.T spec_l6Good.C spec_l6Good.P spec_l6Good.R spec_l6Good.X⟩
theorem spec_l6Good.meets : Meets Try.prog 102 spec_l6Good.S := meets_tab (S := spec_l6Good.U) tabOk_all (AllMeets.cons spec_l6Group.meets (AllMeets.cons spec_l6Old.meets (AllMeets.cons spec_l6New.meets AllMeets.nil))) (AllStill.cons (fun _ _ _ => rfl) (AllStill.cons (fun _ _ _ => rfl) (AllStill.cons (fun _ _ _ => rfl) AllStill.nil))) follows (by kernel_rfl : Try.prog.funcs[102]? = some Try.f102) (by kernel_rfl) (by kernel_rfl) (by kernel_rfl)
noncomputable def spec_ShiftGroups.C : Code := Try.f42.body.getD .skip
def spec_ShiftGroups.P : Par := (.cons (.val (.list (.pair (.int .i64) (.pair (.int .i64) (.one (.list (.pair (.int .i64) (.one .str)))))))) (.cons (.val (.int .i64)) .nil))
noncomputable def spec_ShiftGroups.U : SumTab := [(102, [], spec_l6Good.S), (94, [], spec_l1In.S)]
noncomputable def spec_ShiftGroups.E : Env := mkEnv TY AR spec_ShiftGroups.U
def spec_ShiftGroups.D7 : CutD := ⟨[0, 1], (.cons (.val (.list (.pair (.int .i64) (.pair (.int .i64) (.one (.list (.pair (.int .i64) (.one .str)))))))) (.cons (.val (.int .i64)) .nil))⟩
def spec_ShiftGroups.D10 : CutD := ⟨[1, 6, 17, 18, 19], (.cons (.val (.int .i64)) (.cons (.own 9 (.pair (.int .i64) (.pair (.int .i64) (.one (.list (.pair (.int .i64) (.one .str))))))) (.cons (.val (.list (.pair (.int .i64) (.pair (.int .i64) (.one (.list (.pair (.int .i64) (.one .str)))))))) (.cons (.val (.int .i64)) (.cons (.val (.int .i64)) .nil)))))⟩
noncomputable def spec_ShiftGroups.T : Tab := fun k => look k [(7, spec_ShiftGroups.D7), (10, spec_ShiftGroups.D10)]
def spec_ShiftGroups.R : List (Nat × Ty) := [(9, .list (.pair (.int .i64) (.pair (.int .i64) (.one (.list (.pair (.int .i64) (.one .str))))))), (0, .bool)]
def spec_ShiftGroups.X : List ResultVar := [.tmp 4, .tmp 5]
noncomputable def spec_ShiftGroups.K := fin spec_ShiftGroups.E ⟨spec_ShiftGroups.P, spec_ShiftGroups.R, fun _ _ => none⟩ spec_ShiftGroups.X spec_ShiftGroups.P.len 0
noncomputable def spec_ShiftGroups.l7 (g : List (Int × Int × List (Int × ByteArray))) (t1 : Int) : Option ((List (Int × Int × List (Int × ByteArray))) × Bool) := fixP spec_ShiftGroups.E spec_ShiftGroups.T spec_ShiftGroups.C spec_ShiftGroups.K 7 spec_ShiftGroups.D7 (g, t1)
noncomputable def spec_ShiftGroups.l10 (t1 : Int) (out : List (Int × Int × List (Int × ByteArray))) (t17 : List (Int × Int × List (Int × ByteArray))) (t18 : Int) (t19 : Int) : Option ((List (Int × Int × List (Int × ByteArray))) × Bool) := fixP spec_ShiftGroups.E spec_ShiftGroups.T spec_ShiftGroups.C spec_ShiftGroups.K 10 spec_ShiftGroups.D10 (t1, out, t17, t18, t19)
noncomputable def spec_ShiftGroups.f (g : List (Int × Int × List (Int × ByteArray))) (t1 : Int) : Option ((List (Int × Int × List (Int × ByteArray))) × Bool) := Fn spec_ShiftGroups.E spec_ShiftGroups.T spec_ShiftGroups.C spec_ShiftGroups.P spec_ShiftGroups.R spec_ShiftGroups.X (g, t1)
theorem spec_ShiftGroups.l7_eq (g : List (Int × Int × List (Int × ByteArray))) (t1 : Int) : spec_ShiftGroups.l7 g t1 =
  (spec_ShiftGroups.l10 t1 ([] : List (Int × Int × List (Int × ByteArray))) g (g.length : Int) 0) :=
  (fixP_eq spec_ShiftGroups.E spec_ShiftGroups.T spec_ShiftGroups.C spec_ShiftGroups.K 7 spec_ShiftGroups.D7 (g, t1)).trans (by kernel_rfl)
theorem spec_ShiftGroups.l10_eq (t1 : Int) (out : List (Int × Int × List (Int × ByteArray))) (t17 : List (Int × Int × List (Int × ByteArray))) (t18 : Int) (t19 : Int) : spec_ShiftGroups.l10 t1 out t17 t18 t19 =
  (bif (decide (t19 < t18)) then (bif ((decide (0 ≤ t19)) && (decide (t19 < (t17.length : Int)))) then (bif (decide ((([] : List (Int × ByteArray)).length + (t17.getD (t19).toNat (0, 0, ([] : List (Int × ByteArray)))).2.2.length) ≤ room 24)) then (bif (decide ((out.length + [((w64 ((t17.getD (t19).toNat (0, 0, ([] : List (Int × ByteArray)))).1 + t1)), (w64 ((t17.getD (t19).toNat (0, 0, ([] : List (Int × ByteArray)))).2.1 + t1)), (([] : List (Int × ByteArray)) ++ (t17.getD (t19).toNat (0, 0, ([] : List (Int × ByteArray)))).2.2))].length) ≤ room 40)) then (spec_ShiftGroups.l10 t1 (out ++ [((w64 ((t17.getD (t19).toNat (0, 0, ([] : List (Int × ByteArray)))).1 + t1)), (w64 ((t17.getD (t19).toNat (0, 0, ([] : List (Int × ByteArray)))).2.1 + t1)), (([] : List (Int × ByteArray)) ++ (t17.getD (t19).toNat (0, 0, ([] : List (Int × ByteArray)))).2.2))]) t17 t18 (w64 (t19 + 1))) else none) else none) else none) else
  ((spec_l6Good.f out).bind fun y1 =>
   bif (!y1) then (some (([] : List (Int × Int × List (Int × ByteArray))), false)) else (some (out, true)))) :=
  (fixP_eq spec_ShiftGroups.E spec_ShiftGroups.T spec_ShiftGroups.C spec_ShiftGroups.K 10 spec_ShiftGroups.D10 (t1, out, t17, t18, t19)).trans (by kernel_rfl)
theorem spec_ShiftGroups.f_eq (g : List (Int × Int × List (Int × ByteArray))) (t1 : Int) : spec_ShiftGroups.f g t1 =
  ((spec_l6Good.f g).bind fun y1 =>
  bif (!y1) then (some (([] : List (Int × Int × List (Int × ByteArray))), false)) else
  ((spec_l1In.f t1 (-1000) 1000).bind fun y2 =>
   bif (!y2) then (some (([] : List (Int × Int × List (Int × ByteArray))), false)) else
   (spec_ShiftGroups.l7 g t1))) := by kernel_rfl
noncomputable def spec_ShiftGroups.S : Abs.Sum := ⟨spec_ShiftGroups.P, spec_ShiftGroups.R, fun _ => Fn spec_ShiftGroups.E spec_ShiftGroups.T spec_ShiftGroups.C spec_ShiftGroups.P spec_ShiftGroups.R spec_ShiftGroups.X⟩
theorem spec_ShiftGroups.meets : Meets Try.prog 42 spec_ShiftGroups.S := meets_tab (S := spec_ShiftGroups.U) tabOk_all (AllMeets.cons spec_l6Good.meets (AllMeets.cons spec_l1In.meets AllMeets.nil)) (AllStill.cons (fun _ _ _ => rfl) (AllStill.cons (fun _ _ _ => rfl) AllStill.nil)) follows (by kernel_rfl : Try.prog.funcs[42]? = some Try.f42) (by kernel_rfl) (by kernel_rfl) (by kernel_rfl)
noncomputable def impl_goodGroups.C : Code := Try.f103.body.getD .skip
def impl_goodGroups.P : Par := (.cons (.val (.list (.pair (.int .i64) (.pair (.int .i64) (.one (.list (.pair (.int .i64) (.one .str)))))))) .nil)
noncomputable def impl_goodGroups.U : SumTab := [(88, [], impl_goodGroup.S), (89, [], impl_Group_old.S), (147, [], impl_Group_fresh.S)]
noncomputable def impl_goodGroups.E : Env := mkEnv TY AR impl_goodGroups.U
def impl_goodGroups.D8 : CutD := ⟨[0, 8, 9, 10], (.cons (.val (.list (.pair (.int .i64) (.pair (.int .i64) (.one (.list (.pair (.int .i64) (.one .str)))))))) (.cons (.val (.list (.pair (.int .i64) (.pair (.int .i64) (.one (.list (.pair (.int .i64) (.one .str)))))))) (.cons (.val (.int .i64)) (.cons (.val (.int .i64)) .nil))))⟩
noncomputable def impl_goodGroups.T : Tab := fun k => look k [(8, impl_goodGroups.D8)]
def impl_goodGroups.R : List (Nat × Ty) := [(0, .bool)]
def impl_goodGroups.X : List ResultVar := [.tmp 2]
noncomputable def impl_goodGroups.K := fin impl_goodGroups.E ⟨impl_goodGroups.P, impl_goodGroups.R, fun _ _ => none⟩ impl_goodGroups.X impl_goodGroups.P.len 0
noncomputable def impl_goodGroups.l8 (g : List (Int × Int × List (Int × ByteArray))) (t8 : List (Int × Int × List (Int × ByteArray))) (t9 : Int) (t10 : Int) : Option (Bool) := fixP impl_goodGroups.E impl_goodGroups.T impl_goodGroups.C impl_goodGroups.K 8 impl_goodGroups.D8 (g, t8, t9, t10)
noncomputable def impl_goodGroups.f (g : List (Int × Int × List (Int × ByteArray))) : Option (Bool) := Fn impl_goodGroups.E impl_goodGroups.T impl_goodGroups.C impl_goodGroups.P impl_goodGroups.R impl_goodGroups.X g
theorem impl_goodGroups.l8_eq (g : List (Int × Int × List (Int × ByteArray))) (t8 : List (Int × Int × List (Int × ByteArray))) (t9 : Int) (t10 : Int) : impl_goodGroups.l8 g t8 t9 t10 =
  (bif (decide (t10 < t9)) then (bif ((decide (0 ≤ t10)) && (decide (t10 < (t8.length : Int)))) then ((impl_goodGroup.f (t8.getD (t10).toNat (0, 0, ([] : List (Int × ByteArray))))).bind fun y1 =>
    bif (!y1) then (some false) else
    (bif (decide (t10 > 0)) then (bif ((decide (0 ≤ (w64 (t10 - 1)))) && (decide ((w64 (t10 - 1)) < (g.length : Int)))) then (bif ((decide (0 ≤ (w64 (t10 - 1)))) && (decide ((w64 (t10 - 1)) < (g.length : Int)))) then ((impl_Group_old.f (g.getD ((w64 (t10 - 1))).toNat (0, 0, ([] : List (Int × ByteArray))))).bind fun y2 =>
        bif (decide ((t8.getD (t10).toNat (0, 0, ([] : List (Int × ByteArray)))).1 < (w64 ((g.getD ((w64 (t10 - 1))).toNat (0, 0, ([] : List (Int × ByteArray)))).1 + (y2.length : Int))))) then (some false) else
        (bif ((decide (0 ≤ (w64 (t10 - 1)))) && (decide ((w64 (t10 - 1)) < (g.length : Int)))) then (bif ((decide (0 ≤ (w64 (t10 - 1)))) && (decide ((w64 (t10 - 1)) < (g.length : Int)))) then ((impl_Group_fresh.f (g.getD ((w64 (t10 - 1))).toNat (0, 0, ([] : List (Int × ByteArray))))).bind fun y3 =>
           bif (decide ((t8.getD (t10).toNat (0, 0, ([] : List (Int × ByteArray)))).2.1 < (w64 ((g.getD ((w64 (t10 - 1))).toNat (0, 0, ([] : List (Int × ByteArray)))).2.1 + (y3.length : Int))))) then (some false) else
           (impl_goodGroups.l8 g t8 t9 (w64 (t10 + 1)))) else none) else none)) else none) else none) else
     (impl_goodGroups.l8 g t8 t9 (w64 (t10 + 1))))) else none) else (some true)) :=
  (fixP_eq impl_goodGroups.E impl_goodGroups.T impl_goodGroups.C impl_goodGroups.K 8 impl_goodGroups.D8 (g, t8, t9, t10)).trans (by kernel_rfl)
theorem impl_goodGroups.f_eq (g : List (Int × Int × List (Int × ByteArray))) : impl_goodGroups.f g =
  (bif (decide ((g.length : Int) > 20)) then (some false) else
  (impl_goodGroups.l8 g g (g.length : Int) 0)) := by kernel_rfl
noncomputable def impl_goodGroups.S : Abs.Sum := ⟨impl_goodGroups.P, impl_goodGroups.R, fun _ => Fn impl_goodGroups.E impl_goodGroups.T impl_goodGroups.C impl_goodGroups.P impl_goodGroups.R impl_goodGroups.X⟩
theorem impl_goodGroups.meets : Meets Try.prog 103 impl_goodGroups.S := meets_tab (S := impl_goodGroups.U) tabOk_all (AllMeets.cons impl_goodGroup.meets (AllMeets.cons impl_Group_old.meets (AllMeets.cons impl_Group_fresh.meets AllMeets.nil))) (AllStill.cons (fun _ _ _ => rfl) (AllStill.cons (fun _ _ _ => rfl) (AllStill.cons (fun _ _ _ => rfl) AllStill.nil))) follows (by kernel_rfl : Try.prog.funcs[103]? = some Try.f103) (by kernel_rfl) (by kernel_rfl) (by kernel_rfl)
noncomputable def impl_ShiftGroups.C : Code := Try.f44.body.getD .skip
def impl_ShiftGroups.P : Par := (.cons (.val (.list (.pair (.int .i64) (.pair (.int .i64) (.one (.list (.pair (.int .i64) (.one .str)))))))) (.cons (.val (.int .i64)) .nil))
noncomputable def impl_ShiftGroups.U : SumTab := [(103, [], impl_goodGroups.S), (104, [], impl_in.S), (91, [], slices_Clone_Limpl_Row_impl_Row.S)]
noncomputable def impl_ShiftGroups.E : Env := mkEnv TY AR impl_ShiftGroups.U
def impl_ShiftGroups.D7 : CutD := ⟨[0, 1], (.cons (.val (.list (.pair (.int .i64) (.pair (.int .i64) (.one (.list (.pair (.int .i64) (.one .str)))))))) (.cons (.val (.int .i64)) .nil))⟩
def impl_ShiftGroups.D10 : CutD := ⟨[1, 6, 18, 19, 20], (.cons (.val (.int .i64)) (.cons (.own 9 (.pair (.int .i64) (.pair (.int .i64) (.one (.list (.pair (.int .i64) (.one .str))))))) (.cons (.val (.list (.pair (.int .i64) (.pair (.int .i64) (.one (.list (.pair (.int .i64) (.one .str)))))))) (.cons (.val (.int .i64)) (.cons (.val (.int .i64)) .nil)))))⟩
noncomputable def impl_ShiftGroups.T : Tab := fun k => look k [(7, impl_ShiftGroups.D7), (10, impl_ShiftGroups.D10)]
def impl_ShiftGroups.R : List (Nat × Ty) := [(9, .list (.pair (.int .i64) (.pair (.int .i64) (.one (.list (.pair (.int .i64) (.one .str))))))), (0, .bool)]
def impl_ShiftGroups.X : List ResultVar := [.tmp 4, .tmp 5]
noncomputable def impl_ShiftGroups.K := fin impl_ShiftGroups.E ⟨impl_ShiftGroups.P, impl_ShiftGroups.R, fun _ _ => none⟩ impl_ShiftGroups.X impl_ShiftGroups.P.len 0
noncomputable def impl_ShiftGroups.l7 (g : List (Int × Int × List (Int × ByteArray))) (t1 : Int) : Option ((List (Int × Int × List (Int × ByteArray))) × Bool) := fixP impl_ShiftGroups.E impl_ShiftGroups.T impl_ShiftGroups.C impl_ShiftGroups.K 7 impl_ShiftGroups.D7 (g, t1)
noncomputable def impl_ShiftGroups.l10 (t1 : Int) (out : List (Int × Int × List (Int × ByteArray))) (t18 : List (Int × Int × List (Int × ByteArray))) (t19 : Int) (t20 : Int) : Option ((List (Int × Int × List (Int × ByteArray))) × Bool) := fixP impl_ShiftGroups.E impl_ShiftGroups.T impl_ShiftGroups.C impl_ShiftGroups.K 10 impl_ShiftGroups.D10 (t1, out, t18, t19, t20)
noncomputable def impl_ShiftGroups.f (g : List (Int × Int × List (Int × ByteArray))) (t1 : Int) : Option ((List (Int × Int × List (Int × ByteArray))) × Bool) := Fn impl_ShiftGroups.E impl_ShiftGroups.T impl_ShiftGroups.C impl_ShiftGroups.P impl_ShiftGroups.R impl_ShiftGroups.X (g, t1)
theorem impl_ShiftGroups.l7_eq (g : List (Int × Int × List (Int × ByteArray))) (t1 : Int) : impl_ShiftGroups.l7 g t1 =
  (impl_ShiftGroups.l10 t1 ([] : List (Int × Int × List (Int × ByteArray))) g (g.length : Int) 0) :=
  (fixP_eq impl_ShiftGroups.E impl_ShiftGroups.T impl_ShiftGroups.C impl_ShiftGroups.K 7 impl_ShiftGroups.D7 (g, t1)).trans (by kernel_rfl)
theorem impl_ShiftGroups.l10_eq (t1 : Int) (out : List (Int × Int × List (Int × ByteArray))) (t18 : List (Int × Int × List (Int × ByteArray))) (t19 : Int) (t20 : Int) : impl_ShiftGroups.l10 t1 out t18 t19 t20 =
  (bif (decide (t20 < t19)) then (bif ((decide (0 ≤ t20)) && (decide (t20 < (t18.length : Int)))) then ((slices_Clone_Limpl_Row_impl_Row.f (t18.getD (t20).toNat (0, 0, ([] : List (Int × ByteArray)))).2.2).bind fun y1 =>
    bif (decide ((out.length + [((w64 ((t18.getD (t20).toNat (0, 0, ([] : List (Int × ByteArray)))).1 + t1)), (w64 ((t18.getD (t20).toNat (0, 0, ([] : List (Int × ByteArray)))).2.1 + t1)), y1)].length) ≤ room 40)) then (impl_ShiftGroups.l10 t1 (out ++ [((w64 ((t18.getD (t20).toNat (0, 0, ([] : List (Int × ByteArray)))).1 + t1)), (w64 ((t18.getD (t20).toNat (0, 0, ([] : List (Int × ByteArray)))).2.1 + t1)), y1)]) t18 t19 (w64 (t20 + 1))) else none) else none) else
  ((impl_goodGroups.f out).bind fun y1 =>
   bif (!y1) then (some (([] : List (Int × Int × List (Int × ByteArray))), false)) else (some (out, true)))) :=
  (fixP_eq impl_ShiftGroups.E impl_ShiftGroups.T impl_ShiftGroups.C impl_ShiftGroups.K 10 impl_ShiftGroups.D10 (t1, out, t18, t19, t20)).trans (by kernel_rfl)
theorem impl_ShiftGroups.f_eq (g : List (Int × Int × List (Int × ByteArray))) (t1 : Int) : impl_ShiftGroups.f g t1 =
  ((impl_goodGroups.f g).bind fun y1 =>
  bif (!y1) then (some (([] : List (Int × Int × List (Int × ByteArray))), false)) else
  ((impl_in.f t1 (-1000) 1000).bind fun y2 =>
   bif (!y2) then (some (([] : List (Int × Int × List (Int × ByteArray))), false)) else
   (impl_ShiftGroups.l7 g t1))) := by kernel_rfl
noncomputable def impl_ShiftGroups.S : Abs.Sum := ⟨impl_ShiftGroups.P, impl_ShiftGroups.R, fun _ => Fn impl_ShiftGroups.E impl_ShiftGroups.T impl_ShiftGroups.C impl_ShiftGroups.P impl_ShiftGroups.R impl_ShiftGroups.X⟩
theorem impl_ShiftGroups.meets : Meets Try.prog 44 impl_ShiftGroups.S := meets_tab (S := impl_ShiftGroups.U) tabOk_all (AllMeets.cons impl_goodGroups.meets (AllMeets.cons impl_in.meets (AllMeets.cons slices_Clone_Limpl_Row_impl_Row.meets AllMeets.nil))) (AllStill.cons (fun _ _ _ => rfl) (AllStill.cons (fun _ _ _ => rfl) (AllStill.cons (fun _ _ _ => rfl) AllStill.nil))) follows (by kernel_rfl : Try.prog.funcs[44]? = some Try.f44) (by kernel_rfl) (by kernel_rfl) (by kernel_rfl)
noncomputable def laws_eqGroupS.C : Code := Try.f45.body.getD .skip
def laws_eqGroupS.P : Par := (.cons (.val (.list (.pair (.int .i64) (.pair (.int .i64) (.one (.list (.pair (.int .i64) (.one .str)))))))) (.cons (.val (.list (.pair (.int .i64) (.pair (.int .i64) (.one (.list (.pair (.int .i64) (.one .str)))))))) .nil))
noncomputable def laws_eqGroupS.U : SumTab := [(29, [], laws_eqGroup.S)]
noncomputable def laws_eqGroupS.E : Env := mkEnv TY AR laws_eqGroupS.U
def laws_eqGroupS.D8 : CutD := ⟨[0, 1, 5], (.cons (.val (.list (.pair (.int .i64) (.pair (.int .i64) (.one (.list (.pair (.int .i64) (.one .str)))))))) (.cons (.val (.list (.pair (.int .i64) (.pair (.int .i64) (.one (.list (.pair (.int .i64) (.one .str)))))))) (.cons (.val (.int .i64)) .nil)))⟩
noncomputable def laws_eqGroupS.T : Tab := fun k => look k [(8, laws_eqGroupS.D8)]
def laws_eqGroupS.R : List (Nat × Ty) := [(0, .bool)]
def laws_eqGroupS.X : List ResultVar := [.tmp 4]
noncomputable def laws_eqGroupS.K := fin laws_eqGroupS.E ⟨laws_eqGroupS.P, laws_eqGroupS.R, fun _ _ => none⟩ laws_eqGroupS.X laws_eqGroupS.P.len 0
noncomputable def laws_eqGroupS.l8 (a : List (Int × Int × List (Int × ByteArray))) (b : List (Int × Int × List (Int × ByteArray))) (i : Int) : Option (Bool) := fixP laws_eqGroupS.E laws_eqGroupS.T laws_eqGroupS.C laws_eqGroupS.K 8 laws_eqGroupS.D8 (a, b, i)
noncomputable def laws_eqGroupS.f (a : List (Int × Int × List (Int × ByteArray))) (b : List (Int × Int × List (Int × ByteArray))) : Option (Bool) := Fn laws_eqGroupS.E laws_eqGroupS.T laws_eqGroupS.C laws_eqGroupS.P laws_eqGroupS.R laws_eqGroupS.X (a, b)
theorem laws_eqGroupS.l8_eq (a : List (Int × Int × List (Int × ByteArray))) (b : List (Int × Int × List (Int × ByteArray))) (i : Int) : laws_eqGroupS.l8 a b i =
  (bif (decide (i < (a.length : Int))) then (bif ((decide (0 ≤ i)) && (decide (i < (a.length : Int)))) then (bif ((decide (0 ≤ i)) && (decide (i < (b.length : Int)))) then ((laws_eqGroup.f (a.getD (i).toNat (0, 0, ([] : List (Int × ByteArray)))) (b.getD (i).toNat (0, 0, ([] : List (Int × ByteArray))))).bind fun y1 =>
     bif (!y1) then (some false) else
     (laws_eqGroupS.l8 a b (w64 (i + 1)))) else none) else none) else (some true)) :=
  (fixP_eq laws_eqGroupS.E laws_eqGroupS.T laws_eqGroupS.C laws_eqGroupS.K 8 laws_eqGroupS.D8 (a, b, i)).trans (by kernel_rfl)
theorem laws_eqGroupS.f_eq (a : List (Int × Int × List (Int × ByteArray))) (b : List (Int × Int × List (Int × ByteArray))) : laws_eqGroupS.f a b =
  (bif (!(decide ((a.length : Int) = (b.length : Int)))) then (some false) else
  (laws_eqGroupS.l8 a b 0)) := by kernel_rfl
noncomputable def laws_eqGroupS.S : Abs.Sum := ⟨laws_eqGroupS.P, laws_eqGroupS.R, fun _ => Fn laws_eqGroupS.E laws_eqGroupS.T laws_eqGroupS.C laws_eqGroupS.P laws_eqGroupS.R laws_eqGroupS.X⟩
theorem laws_eqGroupS.meets : Meets Try.prog 45 laws_eqGroupS.S := meets_tab (S := laws_eqGroupS.U) tabOk_all (AllMeets.cons laws_eqGroup.meets AllMeets.nil) (AllStill.cons (fun _ _ _ => rfl) AllStill.nil) follows (by kernel_rfl : Try.prog.funcs[45]? = some Try.f45) (by kernel_rfl) (by kernel_rfl) (by kernel_rfl)
noncomputable def laws_markGroupS.C : Code := Try.f46.body.getD .skip
def laws_markGroupS.P : Par := (.cons (.io 9 (.pair (.int .i64) (.pair (.int .i64) (.one (.list (.pair (.int .i64) (.one .str))))))) (.cons (.val (.int .i64)) .nil))
noncomputable def laws_markGroupS.U : SumTab := [(92, [], laws_markRowS.S)]
noncomputable def laws_markGroupS.E : Env := mkEnv TY AR laws_markGroupS.U
def laws_markGroupS.D4 : CutD := ⟨[0, 1, 5], (.cons (.own 9 (.pair (.int .i64) (.pair (.int .i64) (.one (.list (.pair (.int .i64) (.one .str))))))) (.cons (.val (.int .i64)) (.cons (.val (.int .i64)) .nil)))⟩
noncomputable def laws_markGroupS.T : Tab := fun k => look k [(4, laws_markGroupS.D4)]
def laws_markGroupS.R : List (Nat × Ty) := [(0, .int .i64)]
def laws_markGroupS.X : List ResultVar := [.tmp 4]
noncomputable def laws_markGroupS.K := fin laws_markGroupS.E ⟨laws_markGroupS.P, laws_markGroupS.R, fun _ _ => none⟩ laws_markGroupS.X laws_markGroupS.P.len 0
noncomputable def laws_markGroupS.l4 (a : List (Int × Int × List (Int × ByteArray))) (k : Int) (i : Int) : Option (Int × (List (Int × Int × List (Int × ByteArray)))) := fixP laws_markGroupS.E laws_markGroupS.T laws_markGroupS.C laws_markGroupS.K 4 laws_markGroupS.D4 (a, k, i)
noncomputable def laws_markGroupS.f (a : List (Int × Int × List (Int × ByteArray))) (k : Int) : Option (Int × (List (Int × Int × List (Int × ByteArray)))) := Fn laws_markGroupS.E laws_markGroupS.T laws_markGroupS.C laws_markGroupS.P laws_markGroupS.R laws_markGroupS.X (a, k)
theorem laws_markGroupS.l4_eq (a : List (Int × Int × List (Int × ByteArray))) (k : Int) (i : Int) : laws_markGroupS.l4 a k i =
  (bif (decide (i < (a.length : Int))) then (bif ((decide (0 ≤ i)) && (decide (i < (a.length : Int)))) then (bif ((decide (0 ≤ i)) && (decide (i < ((a.set (i).toNat (k, (a.getD (i).toNat (0, 0, ([] : List (Int × ByteArray)))).2)).length : Int)))) then (bif ((decide (0 ≤ i)) && (decide (i < (((a.set (i).toNat (k, (a.getD (i).toNat (0, 0, ([] : List (Int × ByteArray)))).2)).set (i).toNat (((a.set (i).toNat (k, (a.getD (i).toNat (0, 0, ([] : List (Int × ByteArray)))).2)).getD (i).toNat (0, 0, ([] : List (Int × ByteArray)))).1, (w64 (k + 1)), ((a.set (i).toNat (k, (a.getD (i).toNat (0, 0, ([] : List (Int × ByteArray)))).2)).getD (i).toNat (0, 0, ([] : List (Int × ByteArray)))).2.2)).length : Int)))) then ((laws_markRowS.f (((a.set (i).toNat (k, (a.getD (i).toNat (0, 0, ([] : List (Int × ByteArray)))).2)).set (i).toNat (((a.set (i).toNat (k, (a.getD (i).toNat (0, 0, ([] : List (Int × ByteArray)))).2)).getD (i).toNat (0, 0, ([] : List (Int × ByteArray)))).1, (w64 (k + 1)), ((a.set (i).toNat (k, (a.getD (i).toNat (0, 0, ([] : List (Int × ByteArray)))).2)).getD (i).toNat (0, 0, ([] : List (Int × ByteArray)))).2.2)).getD (i).toNat (0, 0, ([] : List (Int × ByteArray)))).2.2 (w64 ((w64 (k + 1)) + 1))).bind fun y1 =>
      laws_markGroupS.l4 (((a.set (i).toNat (k, (a.getD (i).toNat (0, 0, ([] : List (Int × ByteArray)))).2)).set (i).toNat (((a.set (i).toNat (k, (a.getD (i).toNat (0, 0, ([] : List (Int × ByteArray)))).2)).getD (i).toNat (0, 0, ([] : List (Int × ByteArray)))).1, (w64 (k + 1)), ((a.set (i).toNat (k, (a.getD (i).toNat (0, 0, ([] : List (Int × ByteArray)))).2)).getD (i).toNat (0, 0, ([] : List (Int × ByteArray)))).2.2)).set (i).toNat ((((a.set (i).toNat (k, (a.getD (i).toNat (0, 0, ([] : List (Int × ByteArray)))).2)).set (i).toNat (((a.set (i).toNat (k, (a.getD (i).toNat (0, 0, ([] : List (Int × ByteArray)))).2)).getD (i).toNat (0, 0, ([] : List (Int × ByteArray)))).1, (w64 (k + 1)), ((a.set (i).toNat (k, (a.getD (i).toNat (0, 0, ([] : List (Int × ByteArray)))).2)).getD (i).toNat (0, 0, ([] : List (Int × ByteArray)))).2.2)).getD (i).toNat (0, 0, ([] : List (Int × ByteArray)))).1, (((a.set (i).toNat (k, (a.getD (i).toNat (0, 0, ([] : List (Int × ByteArray)))).2)).set (i).toNat (((a.set (i).toNat (k, (a.getD (i).toNat (0, 0, ([] : List (Int × ByteArray)))).2)).getD (i).toNat (0, 0, ([] : List (Int × ByteArray)))).1, (w64 (k + 1)), ((a.set (i).toNat (k, (a.getD (i).toNat (0, 0, ([] : List (Int × ByteArray)))).2)).getD (i).toNat (0, 0, ([] : List (Int × ByteArray)))).2.2)).getD (i).toNat (0, 0, ([] : List (Int × ByteArray)))).2.1, y1.2)) y1.1 (w64 (i + 1))) else none) else none) else none) else (some (k, a))) :=
  (fixP_eq laws_markGroupS.E laws_markGroupS.T laws_markGroupS.C laws_markGroupS.K 4 laws_markGroupS.D4 (a, k, i)).trans (by kernel_rfl)
theorem laws_markGroupS.f_eq (a : List (Int × Int × List (Int × ByteArray))) (k : Int) : laws_markGroupS.f a k =
  (laws_markGroupS.l4 a k 0) := by kernel_rfl
noncomputable def laws_markGroupS.S : Abs.Sum := ⟨laws_markGroupS.P, laws_markGroupS.R, fun _ => Fn laws_markGroupS.E laws_markGroupS.T laws_markGroupS.C laws_markGroupS.P laws_markGroupS.R laws_markGroupS.X⟩
theorem laws_markGroupS.meets : Meets Try.prog 46 laws_markGroupS.S := meets_tab (S := laws_markGroupS.U) tabOk_all (AllMeets.cons laws_markRowS.meets AllMeets.nil) (AllStill.cons (fun _ _ _ => rfl) AllStill.nil) follows (by kernel_rfl : Try.prog.funcs[46]? = some Try.f46) (by kernel_rfl) (by kernel_rfl) (by kernel_rfl)
noncomputable def laws_heldGroupS.C : Code := Try.f47.body.getD .skip
def laws_heldGroupS.P : Par := (.cons (.val (.list (.pair (.int .i64) (.pair (.int .i64) (.one (.list (.pair (.int .i64) (.one .str)))))))) (.cons (.val (.int .i64)) .nil))
noncomputable def laws_heldGroupS.U : SumTab := [(93, [], laws_heldRowS.S)]
noncomputable def laws_heldGroupS.E : Env := mkEnv TY AR laws_heldGroupS.U
def laws_heldGroupS.D4 : CutD := ⟨[0, 1, 5], (.cons (.val (.list (.pair (.int .i64) (.pair (.int .i64) (.one (.list (.pair (.int .i64) (.one .str)))))))) (.cons (.val (.int .i64)) (.cons (.val (.int .i64)) .nil)))⟩
noncomputable def laws_heldGroupS.T : Tab := fun k => look k [(4, laws_heldGroupS.D4)]
def laws_heldGroupS.R : List (Nat × Ty) := [(0, .int .i64)]
def laws_heldGroupS.X : List ResultVar := [.tmp 4]
noncomputable def laws_heldGroupS.K := fin laws_heldGroupS.E ⟨laws_heldGroupS.P, laws_heldGroupS.R, fun _ _ => none⟩ laws_heldGroupS.X laws_heldGroupS.P.len 0
noncomputable def laws_heldGroupS.l4 (a : List (Int × Int × List (Int × ByteArray))) (k : Int) (i : Int) : Option (Int) := fixP laws_heldGroupS.E laws_heldGroupS.T laws_heldGroupS.C laws_heldGroupS.K 4 laws_heldGroupS.D4 (a, k, i)
noncomputable def laws_heldGroupS.f (a : List (Int × Int × List (Int × ByteArray))) (k : Int) : Option (Int) := Fn laws_heldGroupS.E laws_heldGroupS.T laws_heldGroupS.C laws_heldGroupS.P laws_heldGroupS.R laws_heldGroupS.X (a, k)
theorem laws_heldGroupS.l4_eq (a : List (Int × Int × List (Int × ByteArray))) (k : Int) (i : Int) : laws_heldGroupS.l4 a k i =
  (bif (decide (i < (a.length : Int))) then (bif ((decide (0 ≤ i)) && (decide (i < (a.length : Int)))) then (bif (!(decide ((a.getD (i).toNat (0, 0, ([] : List (Int × ByteArray)))).1 = k))) then (some (-1)) else
    (bif ((decide (0 ≤ i)) && (decide (i < (a.length : Int)))) then (bif (!(decide ((a.getD (i).toNat (0, 0, ([] : List (Int × ByteArray)))).2.1 = (w64 (k + 1))))) then (some (-1)) else
      (bif ((decide (0 ≤ i)) && (decide (i < (a.length : Int)))) then ((laws_heldRowS.f (a.getD (i).toNat (0, 0, ([] : List (Int × ByteArray)))).2.2 (w64 ((w64 (k + 1)) + 1))).bind fun y1 =>
        bif (decide (y1 < 0)) then (some (-1)) else
        (laws_heldGroupS.l4 a y1 (w64 (i + 1)))) else none)) else none)) else none) else (some k)) :=
  (fixP_eq laws_heldGroupS.E laws_heldGroupS.T laws_heldGroupS.C laws_heldGroupS.K 4 laws_heldGroupS.D4 (a, k, i)).trans (by kernel_rfl)
theorem laws_heldGroupS.f_eq (a : List (Int × Int × List (Int × ByteArray))) (k : Int) : laws_heldGroupS.f a k =
  (laws_heldGroupS.l4 a k 0) := by kernel_rfl
noncomputable def laws_heldGroupS.S : Abs.Sum := ⟨laws_heldGroupS.P, laws_heldGroupS.R, fun _ => Fn laws_heldGroupS.E laws_heldGroupS.T laws_heldGroupS.C laws_heldGroupS.P laws_heldGroupS.R laws_heldGroupS.X⟩
theorem laws_heldGroupS.meets : Meets Try.prog 47 laws_heldGroupS.S := meets_tab (S := laws_heldGroupS.U) tabOk_all (AllMeets.cons laws_heldRowS.meets AllMeets.nil) (AllStill.cons (fun _ _ _ => rfl) AllStill.nil) follows (by kernel_rfl : Try.prog.funcs[47]? = some Try.f47) (by kernel_rfl) (by kernel_rfl) (by kernel_rfl)
noncomputable def laws_FnExactShiftGroups.C : Code := Try.f9.body.getD .skip
def laws_FnExactShiftGroups.P : Par := (.cons (.val (.list (.pair (.int .i64) (.pair (.int .i64) (.one (.list (.pair (.int .i64) (.one .str)))))))) (.cons (.val (.int .i64)) .nil))
noncomputable def laws_FnExactShiftGroups.U : SumTab := [(41, [], laws_szGroupS.S), (43, [], laws_toGroupS.S), (42, [], spec_ShiftGroups.S), (44, [], impl_ShiftGroups.S), (45, [], laws_eqGroupS.S), (46, [], laws_markGroupS.S), (47, [], laws_heldGroupS.S)]
noncomputable def laws_FnExactShiftGroups.E : Env := mkEnv TY AR laws_FnExactShiftGroups.U
def laws_FnExactShiftGroups.D21 : CutD := ⟨[0, 1, 6, 7, 8, 9, 10], (.cons (.val (.list (.pair (.int .i64) (.pair (.int .i64) (.one (.list (.pair (.int .i64) (.one .str)))))))) (.cons (.val (.int .i64)) (.cons (.own 8 (.pair (.int .i64) (.pair (.int .i64) (.one (.list (.pair (.int .i64) (.one .str))))))) (.cons (.val .bool) (.cons (.own 8 (.pair (.int .i64) (.pair (.int .i64) (.one (.list (.pair (.int .i64) (.one .str))))))) (.cons (.own 8 (.pair (.int .i64) (.pair (.int .i64) (.one (.list (.pair (.int .i64) (.one .str))))))) (.cons (.val .bool) .nil)))))))⟩
def laws_FnExactShiftGroups.D33 : CutD := ⟨[0, 1, 6, 7, 9], (.cons (.val (.list (.pair (.int .i64) (.pair (.int .i64) (.one (.list (.pair (.int .i64) (.one .str)))))))) (.cons (.val (.int .i64)) (.cons (.own 8 (.pair (.int .i64) (.pair (.int .i64) (.one (.list (.pair (.int .i64) (.one .str))))))) (.cons (.val .bool) (.cons (.own 8 (.pair (.int .i64) (.pair (.int .i64) (.one (.list (.pair (.int .i64) (.one .str))))))) .nil)))))⟩
def laws_FnExactShiftGroups.D55 : CutD := ⟨[9, 12], (.cons (.own 8 (.pair (.int .i64) (.pair (.int .i64) (.one (.list (.pair (.int .i64) (.one .str))))))) (.cons (.val (.int .i64)) .nil))⟩
noncomputable def laws_FnExactShiftGroups.T : Tab := fun k => look k [(21, laws_FnExactShiftGroups.D21), (33, laws_FnExactShiftGroups.D33), (55, laws_FnExactShiftGroups.D55)]
def laws_FnExactShiftGroups.R : List (Nat × Ty) := [(0, .bool)]
def laws_FnExactShiftGroups.X : List ResultVar := [.tmp 4]
noncomputable def laws_FnExactShiftGroups.K := fin laws_FnExactShiftGroups.E ⟨laws_FnExactShiftGroups.P, laws_FnExactShiftGroups.R, fun _ _ => none⟩ laws_FnExactShiftGroups.X laws_FnExactShiftGroups.P.len 0
noncomputable def laws_FnExactShiftGroups.l21 (aG : List (Int × Int × List (Int × ByteArray))) (aBy : Int) (w0 : List (Int × Int × List (Int × ByteArray))) (w1 : Bool) (x0 : List (Int × Int × List (Int × ByteArray))) (g0 : List (Int × Int × List (Int × ByteArray))) (g1 : Bool) : Option (Bool) := fixP laws_FnExactShiftGroups.E laws_FnExactShiftGroups.T laws_FnExactShiftGroups.C laws_FnExactShiftGroups.K 21 laws_FnExactShiftGroups.D21 (aG, aBy, w0, w1, x0, g0, g1)
noncomputable def laws_FnExactShiftGroups.l33 (aG : List (Int × Int × List (Int × ByteArray))) (aBy : Int) (w0 : List (Int × Int × List (Int × ByteArray))) (w1 : Bool) (g0 : List (Int × Int × List (Int × ByteArray))) : Option (Bool) := fixP laws_FnExactShiftGroups.E laws_FnExactShiftGroups.T laws_FnExactShiftGroups.C laws_FnExactShiftGroups.K 33 laws_FnExactShiftGroups.D33 (aG, aBy, w0, w1, g0)
noncomputable def laws_FnExactShiftGroups.l55 (g0 : List (Int × Int × List (Int × ByteArray))) (m : Int) : Option (Bool) := fixP laws_FnExactShiftGroups.E laws_FnExactShiftGroups.T laws_FnExactShiftGroups.C laws_FnExactShiftGroups.K 55 laws_FnExactShiftGroups.D55 (g0, m)
noncomputable def laws_FnExactShiftGroups.f (aG : List (Int × Int × List (Int × ByteArray))) (aBy : Int) : Option (Bool) := Fn laws_FnExactShiftGroups.E laws_FnExactShiftGroups.T laws_FnExactShiftGroups.C laws_FnExactShiftGroups.P laws_FnExactShiftGroups.R laws_FnExactShiftGroups.X (aG, aBy)
theorem laws_FnExactShiftGroups.l21_eq (aG : List (Int × Int × List (Int × ByteArray))) (aBy : Int) (w0 : List (Int × Int × List (Int × ByteArray))) (w1 : Bool) (x0 : List (Int × Int × List (Int × ByteArray))) (g0 : List (Int × Int × List (Int × ByteArray))) (g1 : Bool) : laws_FnExactShiftGroups.l21 aG aBy w0 w1 x0 g0 g1 =
  ((laws_toGroupS.f aG).bind fun y1 =>
  (laws_eqGroupS.f x0 y1).bind fun y2 =>
  bif (!y2) then (some false) else
  ((laws_markGroupS.f x0 1).bind fun y3 =>
   bif (decide (y3.1 < 0)) then (some false) else
   ((laws_eqGroupS.f g0 w0).bind fun y4 =>
    bif (!y4) then (some false) else
    (bif (!(g1 == w1)) then (some false) else
     (laws_FnExactShiftGroups.l33 aG aBy w0 w1 g0))))) :=
  (fixP_eq laws_FnExactShiftGroups.E laws_FnExactShiftGroups.T laws_FnExactShiftGroups.C laws_FnExactShiftGroups.K 21 laws_FnExactShiftGroups.D21 (aG, aBy, w0, w1, x0, g0, g1)).trans (by kernel_rfl)
theorem laws_FnExactShiftGroups.l33_eq (aG : List (Int × Int × List (Int × ByteArray))) (aBy : Int) (w0 : List (Int × Int × List (Int × ByteArray))) (w1 : Bool) (g0 : List (Int × Int × List (Int × ByteArray))) : laws_FnExactShiftGroups.l33 aG aBy w0 w1 g0 =
  ((laws_markGroupS.f g0 1).bind fun y1 =>
  (laws_heldGroupS.f y1.2 1).bind fun y2 =>
  bif (decide (y2 < 0)) then (some false) else
  (bif (!(decide (y2 = y1.1))) then (some false) else
   ((laws_toGroupS.f aG).bind fun y3 =>
    (impl_ShiftGroups.f y3 aBy).bind fun y4 =>
    (laws_eqGroupS.f y4.1 w0).bind fun y5 =>
    bif (!y5) then (some false) else
    (bif (!(y4.2 == w1)) then (some false) else
     (laws_FnExactShiftGroups.l55 y1.2 y1.1))))) :=
  (fixP_eq laws_FnExactShiftGroups.E laws_FnExactShiftGroups.T laws_FnExactShiftGroups.C laws_FnExactShiftGroups.K 33 laws_FnExactShiftGroups.D33 (aG, aBy, w0, w1, g0)).trans (by kernel_rfl)
theorem laws_FnExactShiftGroups.l55_eq (g0 : List (Int × Int × List (Int × ByteArray))) (m : Int) : laws_FnExactShiftGroups.l55 g0 m =
  ((laws_heldGroupS.f g0 1).bind fun y1 =>
  bif (decide (y1 < 0)) then (some false) else
  (bif (!(decide (y1 = m))) then (some false) else (some true))) :=
  (fixP_eq laws_FnExactShiftGroups.E laws_FnExactShiftGroups.T laws_FnExactShiftGroups.C laws_FnExactShiftGroups.K 55 laws_FnExactShiftGroups.D55 (g0, m)).trans (by kernel_rfl)
theorem laws_FnExactShiftGroups.f_eq (aG : List (Int × Int × List (Int × ByteArray))) (aBy : Int) : laws_FnExactShiftGroups.f aG aBy =
  ((laws_szGroupS.f aG 1048576).bind fun y1 =>
  bif (decide (y1 < 0)) then (some true) else
  ((laws_toGroupS.f aG).bind fun y2 =>
   (spec_ShiftGroups.f y2 aBy).bind fun y3 =>
   (laws_toGroupS.f aG).bind fun y4 =>
   (impl_ShiftGroups.f y4 aBy).bind fun y5 =>
   (laws_eqGroupS.f y5.1 y3.1).bind fun y6 =>
   bif (!y6) then (some false) else
   (bif (!(y5.2 == y3.2)) then (some false) else
    (laws_FnExactShiftGroups.l21 aG aBy y3.1 y3.2 y4 y5.1 y5.2)))) := by kernel_rfl
noncomputable def laws_FnExactShiftGroups.S : Abs.Sum := ⟨laws_FnExactShiftGroups.P, laws_FnExactShiftGroups.R, fun _ => Fn laws_FnExactShiftGroups.E laws_FnExactShiftGroups.T laws_FnExactShiftGroups.C laws_FnExactShiftGroups.P laws_FnExactShiftGroups.R laws_FnExactShiftGroups.X⟩
theorem laws_FnExactShiftGroups.meets : Meets Try.prog 9 laws_FnExactShiftGroups.S := meets_tab (S := laws_FnExactShiftGroups.U) tabOk_all (AllMeets.cons laws_szGroupS.meets (AllMeets.cons laws_toGroupS.meets (AllMeets.cons spec_ShiftGroups.meets (AllMeets.cons impl_ShiftGroups.meets (AllMeets.cons laws_eqGroupS.meets (AllMeets.cons laws_markGroupS.meets (AllMeets.cons laws_heldGroupS.meets AllMeets.nil))))))) (AllStill.cons (fun _ _ _ => rfl) (AllStill.cons (fun _ _ _ => rfl) (AllStill.cons (fun _ _ _ => rfl) (AllStill.cons (fun _ _ _ => rfl) (AllStill.cons (fun _ _ _ => rfl) (AllStill.cons (fun _ _ _ => rfl) (AllStill.cons (fun _ _ _ => rfl) AllStill.nil))))))) follows (by kernel_rfl : Try.prog.funcs[9]? = some Try.f9) (by kernel_rfl) (by kernel_rfl) (by kernel_rfl)
end Go.Abs.G
