import Derived.Test.YtafohchkacclpaaGB
set_option linter.unusedVariables false
set_option linter.unusedSimpArgs false
namespace Go.Abs.G
open Go Go.Abs Go.Proofs
noncomputable def spec_l1In.C : Code := Try.f94.body.getD .skip
def spec_l1In.P : Par := (.cons (.val (.int .i64)) (.cons (.val (.int .i64)) (.cons (.val (.int .i64)) .nil)))
noncomputable def spec_l1In.U : SumTab := []
noncomputable def spec_l1In.E : Env := mkEnv TY AR spec_l1In.U
noncomputable def spec_l1In.T : Tab := fun k => look k []
def spec_l1In.R : List (Nat × Ty) := [(0, .bool)]
def spec_l1In.X : List ResultVar := [.tmp 6]
noncomputable def spec_l1In.f (n : Int) (lo : Int) (hi : Int) : Option (Bool) := Fn spec_l1In.E spec_l1In.T spec_l1In.C spec_l1In.P spec_l1In.R spec_l1In.X (n, lo, hi)
theorem spec_l1In.f_eq (n : Int) (lo : Int) (hi : Int) : spec_l1In.f n lo hi =
  (bif (decide (n ≥ lo)) then (some (decide (n ≤ hi))) else (some false)) := by kernel_rfl
noncomputable def spec_l1In.S : Abs.Sum := ⟨spec_l1In.P, spec_l1In.R, fun _ => Fn spec_l1In.E spec_l1In.T spec_l1In.C spec_l1In.P spec_l1In.R spec_l1In.X⟩
theorem spec_l1In.meets : Meets Try.prog 94 spec_l1In.S := meets_tab (S := spec_l1In.U) tabOk_all AllMeets.nil AllStill.nil follows (by kernel_rfl : Try.prog.funcs[94]? = some Try.f94) (by kernel_rfl) (by kernel_rfl) (by kernel_rfl)
noncomputable def spec_l1Line.C : Code := Try.f76.body.getD .skip
def spec_l1Line.P : Par := (.cons (.val .str) .nil)
noncomputable def spec_l1Line.U : SumTab := [(94, [], spec_l1In.S)]
noncomputable def spec_l1Line.E : Env := mkEnv TY AR spec_l1Line.U
def spec_l1Line.D4 : CutD := ⟨[0, 3], (.cons (.val .str) (.cons (.val (.int .i64)) .nil))⟩
noncomputable def spec_l1Line.T : Tab := fun k => look k [(4, spec_l1Line.D4)]
def spec_l1Line.R : List (Nat × Ty) := [(0, .bool)]
def spec_l1Line.X : List ResultVar := [.tmp 2]
noncomputable def spec_l1Line.K := fin spec_l1Line.E ⟨spec_l1Line.P, spec_l1Line.R, fun _ _ => none⟩ spec_l1Line.X spec_l1Line.P.len 0
noncomputable def spec_l1Line.l4 (s : ByteArray) (i : Int) : Option (Bool) := fixP spec_l1Line.E spec_l1Line.T spec_l1Line.C spec_l1Line.K 4 spec_l1Line.D4 (s, i)
noncomputable def spec_l1Line.f (s : ByteArray) : Option (Bool) := Fn spec_l1Line.E spec_l1Line.T spec_l1Line.C spec_l1Line.P spec_l1Line.R spec_l1Line.X s
theorem spec_l1Line.l4_eq (s : ByteArray) (i : Int) : spec_l1Line.l4 s i =
  (bif (decide (i < (w64 ((s.size : Int) - 1)))) then (bif ((decide (0 ≤ i)) && (decide (i < (s.size : Int)))) then (bif (decide ((bt s i) = 10)) then (some false) else
    (spec_l1Line.l4 s (w64 (i + 1)))) else none) else
  ((spec_l1In.f (s.size : Int) 1 30).bind fun y1 =>
   some y1)) :=
  (fixP_eq spec_l1Line.E spec_l1Line.T spec_l1Line.C spec_l1Line.K 4 spec_l1Line.D4 (s, i)).trans (by kernel_rfl)
theorem spec_l1Line.f_eq (s : ByteArray) : spec_l1Line.f s =
  (spec_l1Line.l4 s 0) := by kernel_rfl
noncomputable def spec_l1Line.S : Abs.Sum := ⟨spec_l1Line.P, spec_l1Line.R, fun _ => Fn spec_l1Line.E spec_l1Line.T spec_l1Line.C spec_l1Line.P spec_l1Line.R spec_l1Line.X⟩
theorem spec_l1Line.meets : Meets Try.prog 76 spec_l1Line.S := meets_tab (S := spec_l1Line.U) tabOk_all (AllMeets.cons spec_l1In.meets AllMeets.nil) (AllStill.cons (fun _ _ _ => rfl) AllStill.nil) follows (by kernel_rfl : Try.prog.funcs[76]? = some Try.f76) (by kernel_rfl) (by kernel_rfl) (by kernel_rfl)
noncomputable def spec_l1Ends.C : Code := Try.f132.body.getD .skip
def spec_l1Ends.P : Par := (.cons (.val .str) .nil)
noncomputable def spec_l1Ends.U : SumTab := []
noncomputable def spec_l1Ends.E : Env := mkEnv TY AR spec_l1Ends.U
noncomputable def spec_l1Ends.T : Tab := fun k => look k []
def spec_l1Ends.R : List (Nat × Ty) := [(0, .bool)]
def spec_l1Ends.X : List ResultVar := [.tmp 2]
noncomputable def spec_l1Ends.f (s : ByteArray) : Option (Bool) := Fn spec_l1Ends.E spec_l1Ends.T spec_l1Ends.C spec_l1Ends.P spec_l1Ends.R spec_l1Ends.X s
theorem spec_l1Ends.f_eq (s : ByteArray) : spec_l1Ends.f s =
  (bif ((decide (0 ≤ (w64 ((s.size : Int) - 1)))) && (decide ((w64 ((s.size : Int) - 1)) < (s.size : Int)))) then (some (decide ((bt s (w64 ((s.size : Int) - 1))) = 10))) else none) := by kernel_rfl
noncomputable def spec_l1Ends.S : Abs.Sum := ⟨spec_l1Ends.P, spec_l1Ends.R, fun _ => Fn spec_l1Ends.E spec_l1Ends.T spec_l1Ends.C spec_l1Ends.P spec_l1Ends.R spec_l1Ends.X⟩
theorem spec_l1Ends.meets : Meets Try.prog 132 spec_l1Ends.S := meets_tab (S := spec_l1Ends.U) tabOk_all AllMeets.nil AllStill.nil follows (by kernel_rfl : Try.prog.funcs[132]? = some Try.f132) (by kernel_rfl) (by kernel_rfl) (by kernel_rfl)
noncomputable def spec_l1Good.C : Code := Try.f75.body.getD .skip
def spec_l1Good.P : Par := (.cons (.val (.list .str)) .nil)
noncomputable def spec_l1Good.U : SumTab := [(76, [], spec_l1Line.S), (132, [], spec_l1Ends.S)]
noncomputable def spec_l1Good.E : Env := mkEnv TY AR spec_l1Good.U
def spec_l1Good.D4 : CutD := ⟨[0, 5, 6, 7], (.cons (.val (.list .str)) (.cons (.val (.list .str)) (.cons (.val (.int .i64)) (.cons (.val (.int .i64)) .nil))))⟩
noncomputable def spec_l1Good.T : Tab := fun k => look k [(4, spec_l1Good.D4)]
def spec_l1Good.R : List (Nat × Ty) := [(0, .bool)]
def spec_l1Good.X : List ResultVar := [.tmp 2]
noncomputable def spec_l1Good.K := fin spec_l1Good.E ⟨spec_l1Good.P, spec_l1Good.R, fun _ _ => none⟩ spec_l1Good.X spec_l1Good.P.len 0
noncomputable def spec_l1Good.l4 (l : List ByteArray) (t5 : List ByteArray) (t6 : Int) (t7 : Int) : Option (Bool) := fixP spec_l1Good.E spec_l1Good.T spec_l1Good.C spec_l1Good.K 4 spec_l1Good.D4 (l, t5, t6, t7)
noncomputable def spec_l1Good.f (l : List ByteArray) : Option (Bool) := Fn spec_l1Good.E spec_l1Good.T spec_l1Good.C spec_l1Good.P spec_l1Good.R spec_l1Good.X l
theorem spec_l1Good.l4_eq (l : List ByteArray) (t5 : List ByteArray) (t6 : Int) (t7 : Int) : spec_l1Good.l4 l t5 t6 t7 =
  (bif (decide (t7 < t6)) then (bif ((decide (0 ≤ t7)) && (decide (t7 < (t5.length : Int)))) then ((spec_l1Line.f (t5.getD (t7).toNat em)).bind fun y1 =>
    bif (!y1) then (some false) else
    (bif (decide (t7 < (w64 ((l.length : Int) - 1)))) then ((spec_l1Ends.f (t5.getD (t7).toNat em)).bind fun y2 =>
      bif (!y2) then (some false) else
      (spec_l1Good.l4 l t5 t6 (w64 (t7 + 1)))) else
     (spec_l1Good.l4 l t5 t6 (w64 (t7 + 1))))) else none) else (some (decide ((l.length : Int) ≤ 40)))) :=
  (fixP_eq spec_l1Good.E spec_l1Good.T spec_l1Good.C spec_l1Good.K 4 spec_l1Good.D4 (l, t5, t6, t7)).trans (by kernel_rfl)
theorem spec_l1Good.f_eq (l : List ByteArray) : spec_l1Good.f l =
  (spec_l1Good.l4 l l (l.length : Int) 0) := by kernel_rfl
noncomputable def spec_l1Good.S : Abs.Sum := ⟨spec_l1Good.P, spec_l1Good.R, fun _ => Fn spec_l1Good.E spec_l1Good.T spec_l1Good.C spec_l1Good.P spec_l1Good.R spec_l1Good.X⟩
theorem spec_l1Good.meets : Meets Try.prog 75 spec_l1Good.S := meets_tab (S := spec_l1Good.U) tabOk_all (AllMeets.cons spec_l1Line.meets (AllMeets.cons spec_l1Ends.meets AllMeets.nil)) (AllStill.cons (fun _ _ _ => rfl) (AllStill.cons (fun _ _ _ => rfl) AllStill.nil)) follows (by kernel_rfl : Try.prog.funcs[75]? = some Try.f75) (by kernel_rfl) (by kernel_rfl) (by kernel_rfl)
noncomputable def impl_in.C : Code := Try.f104.body.getD .skip
def impl_in.P : Par := (.cons (.val (.int .i64)) (.cons (.val (.int .i64)) (.cons (.val (.int .i64)) .nil)))
noncomputable def impl_in.U : SumTab := []
noncomputable def impl_in.E : Env := mkEnv TY AR impl_in.U
noncomputable def impl_in.T : Tab := fun k => look k []
def impl_in.R : List (Nat × Ty) := [(0, .bool)]
def impl_in.X : List ResultVar := [.tmp 6]
noncomputable def impl_in.f (n : Int) (low : Int) (high : Int) : Option (Bool) := Fn impl_in.E impl_in.T impl_in.C impl_in.P impl_in.R impl_in.X (n, low, high)
theorem impl_in.f_eq (n : Int) (low : Int) (high : Int) : impl_in.f n low high =
  (bif (decide (n ≥ low)) then (some (decide (n ≤ high))) else (some false)) := by kernel_rfl
noncomputable def impl_in.S : Abs.Sum := ⟨impl_in.P, impl_in.R, fun _ => Fn impl_in.E impl_in.T impl_in.C impl_in.P impl_in.R impl_in.X⟩
theorem impl_in.meets : Meets Try.prog 104 impl_in.S := meets_tab (S := impl_in.U) tabOk_all AllMeets.nil AllStill.nil follows (by kernel_rfl : Try.prog.funcs[104]? = some Try.f104) (by kernel_rfl) (by kernel_rfl) (by kernel_rfl)
noncomputable def impl_isLine.C : Code := Try.f137.body.getD .skip
def impl_isLine.P : Par := (.cons (.val .str) .nil)
noncomputable def impl_isLine.U : SumTab := [(104, [], impl_in.S), (170, [], strings_Contains.S)]
noncomputable def impl_isLine.E : Env := mkEnv TY AR impl_isLine.U
noncomputable def impl_isLine.T : Tab := fun k => look k []
def impl_isLine.R : List (Nat × Ty) := [(0, .bool)]
def impl_isLine.X : List ResultVar := [.tmp 2]
noncomputable def impl_isLine.f (line : ByteArray) : Option (Bool) := Fn impl_isLine.E impl_isLine.T impl_isLine.C impl_isLine.P impl_isLine.R impl_isLine.X line
theorem impl_isLine.f_eq (line : ByteArray) : impl_isLine.f line =
  ((impl_in.f (line.size : Int) 1 30).bind fun y1 =>
  bif y1 then (bif ((decide (0 ≤ (w64 ((line.size : Int) - 1)))) && (decide ((w64 ((line.size : Int) - 1)) ≤ (line.size : Int)))) then ((strings_Contains.f (line.extract 0 ((w64 ((line.size : Int) - 1))).toNat) (⟨#[10]⟩ : ByteArray)).bind fun y2 =>
    some (!y2)) else none) else (some false)) := by kernel_rfl
noncomputable def impl_isLine.S : Abs.Sum := ⟨impl_isLine.P, impl_isLine.R, fun _ => Fn impl_isLine.E impl_isLine.T impl_isLine.C impl_isLine.P impl_isLine.R impl_isLine.X⟩
theorem impl_isLine.meets : Meets Try.prog 137 impl_isLine.S := meets_tab (S := impl_isLine.U) tabOk_all (AllMeets.cons impl_in.meets (AllMeets.cons strings_Contains.meets AllMeets.nil)) (AllStill.cons (fun _ _ _ => rfl) (AllStill.cons (fun _ _ _ => rfl) AllStill.nil)) follows (by kernel_rfl : Try.prog.funcs[137]? = some Try.f137) (by kernel_rfl) (by kernel_rfl) (by kernel_rfl)
noncomputable def impl_areLines_1.C : Code := Try.f136.body.getD .skip
def impl_areLines_1.P : Par := (.cons (.val .str) .nil)
noncomputable def impl_areLines_1.U : SumTab := [(137, [], impl_isLine.S)]
noncomputable def impl_areLines_1.E : Env := mkEnv TY AR impl_areLines_1.U
noncomputable def impl_areLines_1.T : Tab := fun k => look k []
def impl_areLines_1.R : List (Nat × Ty) := [(0, .bool)]
def impl_areLines_1.X : List ResultVar := [.tmp 2]
noncomputable def impl_areLines_1.f (line : ByteArray) : Option (Bool) := Fn impl_areLines_1.E impl_areLines_1.T impl_areLines_1.C impl_areLines_1.P impl_areLines_1.R impl_areLines_1.X line
theorem impl_areLines_1.f_eq (line : ByteArray) : impl_areLines_1.f line =
  ((impl_isLine.f line).bind fun y1 =>
  some (!y1)) := by kernel_rfl
noncomputable def impl_areLines_1.S : Abs.Sum := ⟨impl_areLines_1.P, impl_areLines_1.R, fun _ => Fn impl_areLines_1.E impl_areLines_1.T impl_areLines_1.C impl_areLines_1.P impl_areLines_1.R impl_areLines_1.X⟩
theorem impl_areLines_1.meets : Meets Try.prog 136 impl_areLines_1.S := meets_tab (S := impl_areLines_1.U) tabOk_all (AllMeets.cons impl_isLine.meets AllMeets.nil) (AllStill.cons (fun _ _ _ => rfl) AllStill.nil) follows (by kernel_rfl : Try.prog.funcs[136]? = some Try.f136) (by kernel_rfl) (by kernel_rfl) (by kernel_rfl)
noncomputable def slices_IndexFunc_Lstring_string__impl_areLines_1.C : Code := Try.f169.body.getD .skip
def slices_IndexFunc_Lstring_string__impl_areLines_1.P : Par := (.cons (.val (.list .str)) (.cons (.fn 136 .nil) .nil))
noncomputable def slices_IndexFunc_Lstring_string__impl_areLines_1.U : SumTab := [(136, [], impl_areLines_1.S)]
noncomputable def slices_IndexFunc_Lstring_string__impl_areLines_1.E : Env := mkEnv TY AR slices_IndexFunc_Lstring_string__impl_areLines_1.U
def slices_IndexFunc_Lstring_string__impl_areLines_1.D4 : CutD := ⟨[0, 1, 7, 8], (.cons (.val (.list .str)) (.cons (.fn 136 .nil) (.cons (.val (.int .i64)) (.cons (.val (.int .i64)) .nil))))⟩
noncomputable def slices_IndexFunc_Lstring_string__impl_areLines_1.T : Tab := fun k => look k [(4, slices_IndexFunc_Lstring_string__impl_areLines_1.D4)]
def slices_IndexFunc_Lstring_string__impl_areLines_1.R : List (Nat × Ty) := [(0, .int .i64)]
def slices_IndexFunc_Lstring_string__impl_areLines_1.X : List ResultVar := [.tmp 4]
noncomputable def slices_IndexFunc_Lstring_string__impl_areLines_1.K := fin slices_IndexFunc_Lstring_string__impl_areLines_1.E ⟨slices_IndexFunc_Lstring_string__impl_areLines_1.P, slices_IndexFunc_Lstring_string__impl_areLines_1.R, fun _ _ => none⟩ slices_IndexFunc_Lstring_string__impl_areLines_1.X slices_IndexFunc_Lstring_string__impl_areLines_1.P.len 0
noncomputable def slices_IndexFunc_Lstring_string__impl_areLines_1.l4 (s : List ByteArray) (t7 : Int) (t8 : Int) : Option (Int) := fixP slices_IndexFunc_Lstring_string__impl_areLines_1.E slices_IndexFunc_Lstring_string__impl_areLines_1.T slices_IndexFunc_Lstring_string__impl_areLines_1.C slices_IndexFunc_Lstring_string__impl_areLines_1.K 4 slices_IndexFunc_Lstring_string__impl_areLines_1.D4 (s, t7, t8)
noncomputable def slices_IndexFunc_Lstring_string__impl_areLines_1.f (s : List ByteArray) : Option (Int) := Fn slices_IndexFunc_Lstring_string__impl_areLines_1.E slices_IndexFunc_Lstring_string__impl_areLines_1.T slices_IndexFunc_Lstring_string__impl_areLines_1.C slices_IndexFunc_Lstring_string__impl_areLines_1.P slices_IndexFunc_Lstring_string__impl_areLines_1.R slices_IndexFunc_Lstring_string__impl_areLines_1.X s
theorem slices_IndexFunc_Lstring_string__impl_areLines_1.l4_eq (s : List ByteArray) (t7 : Int) (t8 : Int) : slices_IndexFunc_Lstring_string__impl_areLines_1.l4 s t7 t8 =
  (bif (decide (t8 < t7)) then (bif ((decide (0 ≤ t8)) && (decide (t8 < (s.length : Int)))) then ((impl_areLines_1.f (s.getD (t8).toNat em)).bind fun y1 =>
    bif y1 then (some t8) else
    (slices_IndexFunc_Lstring_string__impl_areLines_1.l4 s t7 (w64 (t8 + 1)))) else none) else (some (-1))) :=
  (fixP_eq slices_IndexFunc_Lstring_string__impl_areLines_1.E slices_IndexFunc_Lstring_string__impl_areLines_1.T slices_IndexFunc_Lstring_string__impl_areLines_1.C slices_IndexFunc_Lstring_string__impl_areLines_1.K 4 slices_IndexFunc_Lstring_string__impl_areLines_1.D4 (s, t7, t8)).trans (by kernel_rfl)
theorem slices_IndexFunc_Lstring_string__impl_areLines_1.f_eq (s : List ByteArray) : slices_IndexFunc_Lstring_string__impl_areLines_1.f s =
  (slices_IndexFunc_Lstring_string__impl_areLines_1.l4 s (s.length : Int) 0) := by kernel_rfl
noncomputable def slices_IndexFunc_Lstring_string__impl_areLines_1.S : Abs.Sum := ⟨slices_IndexFunc_Lstring_string__impl_areLines_1.P, slices_IndexFunc_Lstring_string__impl_areLines_1.R, fun _ => Fn slices_IndexFunc_Lstring_string__impl_areLines_1.E slices_IndexFunc_Lstring_string__impl_areLines_1.T slices_IndexFunc_Lstring_string__impl_areLines_1.C slices_IndexFunc_Lstring_string__impl_areLines_1.P slices_IndexFunc_Lstring_string__impl_areLines_1.R slices_IndexFunc_Lstring_string__impl_areLines_1.X⟩
theorem slices_IndexFunc_Lstring_string__impl_areLines_1.meets : Meets Try.prog 169 slices_IndexFunc_Lstring_string__impl_areLines_1.S := meets_tab (S := slices_IndexFunc_Lstring_string__impl_areLines_1.U) tabOk_all (AllMeets.cons impl_areLines_1.meets AllMeets.nil) (AllStill.cons (fun _ _ _ => rfl) AllStill.nil) follows (by kernel_rfl : Try.prog.funcs[169]? = some Try.f169) (by kernel_rfl) (by kernel_rfl) (by kernel_rfl)
noncomputable def slices_ContainsFunc_Lstring_string__impl_areLines_1.C : Code := Try.f135.body.getD .skip
def slices_ContainsFunc_Lstring_string__impl_areLines_1.P : Par := (.cons (.val (.list .str)) (.cons (.fn 136 .nil) .nil))
noncomputable def slices_ContainsFunc_Lstring_string__impl_areLines_1.U : SumTab := [(169, [136], slices_IndexFunc_Lstring_string__impl_areLines_1.S)]
noncomputable def slices_ContainsFunc_Lstring_string__impl_areLines_1.E : Env := mkEnv TY AR slices_ContainsFunc_Lstring_string__impl_areLines_1.U
noncomputable def slices_ContainsFunc_Lstring_string__impl_areLines_1.T : Tab := fun k => look k []
def slices_ContainsFunc_Lstring_string__impl_areLines_1.R : List (Nat × Ty) := [(0, .bool)]
def slices_ContainsFunc_Lstring_string__impl_areLines_1.X : List ResultVar := [.tmp 4]
noncomputable def slices_ContainsFunc_Lstring_string__impl_areLines_1.f (s : List ByteArray) : Option (Bool) := Fn slices_ContainsFunc_Lstring_string__impl_areLines_1.E slices_ContainsFunc_Lstring_string__impl_areLines_1.T slices_ContainsFunc_Lstring_string__impl_areLines_1.C slices_ContainsFunc_Lstring_string__impl_areLines_1.P slices_ContainsFunc_Lstring_string__impl_areLines_1.R slices_ContainsFunc_Lstring_string__impl_areLines_1.X s
theorem slices_ContainsFunc_Lstring_string__impl_areLines_1.f_eq (s : List ByteArray) : slices_ContainsFunc_Lstring_string__impl_areLines_1.f s =
  ((slices_IndexFunc_Lstring_string__impl_areLines_1.f s).bind fun y1 =>
  some (decide (y1 ≥ 0))) := by kernel_rfl
noncomputable def slices_ContainsFunc_Lstring_string__impl_areLines_1.S : Abs.Sum := ⟨slices_ContainsFunc_Lstring_string__impl_areLines_1.P, slices_ContainsFunc_Lstring_string__impl_areLines_1.R, fun _ => Fn slices_ContainsFunc_Lstring_string__impl_areLines_1.E slices_ContainsFunc_Lstring_string__impl_areLines_1.T slices_ContainsFunc_Lstring_string__impl_areLines_1.C slices_ContainsFunc_Lstring_string__impl_areLines_1.P slices_ContainsFunc_Lstring_string__impl_areLines_1.R slices_ContainsFunc_Lstring_string__impl_areLines_1.X⟩
theorem slices_ContainsFunc_Lstring_string__impl_areLines_1.meets : Meets Try.prog 135 slices_ContainsFunc_Lstring_string__impl_areLines_1.S := meets_tab (S := slices_ContainsFunc_Lstring_string__impl_areLines_1.U) tabOk_all (AllMeets.cons slices_IndexFunc_Lstring_string__impl_areLines_1.meets AllMeets.nil) (AllStill.cons (fun _ _ _ => rfl) AllStill.nil) follows (by kernel_rfl : Try.prog.funcs[135]? = some Try.f135) (by kernel_rfl) (by kernel_rfl) (by kernel_rfl)
noncomputable def impl_areLines.C : Code := Try.f79.body.getD .skip
def impl_areLines.P : Par := (.cons (.val (.list .str)) .nil)
noncomputable def impl_areLines.U : SumTab := [(135, [136], slices_ContainsFunc_Lstring_string__impl_areLines_1.S)]
noncomputable def impl_areLines.E : Env := mkEnv TY AR impl_areLines.U
noncomputable def impl_areLines.T : Tab := fun k => look k []
def impl_areLines.R : List (Nat × Ty) := [(0, .bool)]
def impl_areLines.X : List ResultVar := [.tmp 2]
noncomputable def impl_areLines.f (l : List ByteArray) : Option (Bool) := Fn impl_areLines.E impl_areLines.T impl_areLines.C impl_areLines.P impl_areLines.R impl_areLines.X l
theorem impl_areLines.f_eq (l : List ByteArray) : impl_areLines.f l =
  (bif (decide ((l.length : Int) ≤ 40)) then ((slices_ContainsFunc_Lstring_string__impl_areLines_1.f l).bind fun y1 =>
   some (!y1)) else (some false)) := by kernel_rfl
noncomputable def impl_areLines.S : Abs.Sum := ⟨impl_areLines.P, impl_areLines.R, fun _ => Fn impl_areLines.E impl_areLines.T impl_areLines.C impl_areLines.P impl_areLines.R impl_areLines.X⟩
theorem impl_areLines.meets : Meets Try.prog 79 impl_areLines.S := meets_tab (S := impl_areLines.U) tabOk_all (AllMeets.cons slices_ContainsFunc_Lstring_string__impl_areLines_1.meets AllMeets.nil) (AllStill.cons (fun _ _ _ => rfl) AllStill.nil) follows (by kernel_rfl : Try.prog.funcs[79]? = some Try.f79) (by kernel_rfl) (by kernel_rfl) (by kernel_rfl)
noncomputable def internal_stringslite_HasSuffix.C : Code := Try.f177.body.getD .skip
def internal_stringslite_HasSuffix.P : Par := (.cons (.val .str) (.cons (.val .str) .nil))
noncomputable def internal_stringslite_HasSuffix.U : SumTab := []
noncomputable def internal_stringslite_HasSuffix.E : Env := mkEnv TY AR internal_stringslite_HasSuffix.U
noncomputable def internal_stringslite_HasSuffix.T : Tab := fun k => look k []
def internal_stringslite_HasSuffix.R : List (Nat × Ty) := [(0, .bool)]
def internal_stringslite_HasSuffix.X : List ResultVar := [.tmp 4]
noncomputable def internal_stringslite_HasSuffix.f (s : ByteArray) (suffix : ByteArray) : Option (Bool) := Fn internal_stringslite_HasSuffix.E internal_stringslite_HasSuffix.T internal_stringslite_HasSuffix.C internal_stringslite_HasSuffix.P internal_stringslite_HasSuffix.R internal_stringslite_HasSuffix.X (s, suffix)
theorem internal_stringslite_HasSuffix.f_eq (s : ByteArray) (suffix : ByteArray) : internal_stringslite_HasSuffix.f s suffix =
  (bif (decide ((s.size : Int) ≥ (suffix.size : Int))) then (bif ((decide (0 ≤ (w64 ((s.size : Int) - (suffix.size : Int))))) && (decide ((w64 ((s.size : Int) - (suffix.size : Int))) ≤ (s.size : Int)))) then (some ((s.extract ((w64 ((s.size : Int) - (suffix.size : Int)))).toNat s.size).toList == suffix.toList)) else none) else (some false)) := by kernel_rfl
noncomputable def internal_stringslite_HasSuffix.S : Abs.Sum := ⟨internal_stringslite_HasSuffix.P, internal_stringslite_HasSuffix.R, fun _ => Fn internal_stringslite_HasSuffix.E internal_stringslite_HasSuffix.T internal_stringslite_HasSuffix.C internal_stringslite_HasSuffix.P internal_stringslite_HasSuffix.R internal_stringslite_HasSuffix.X⟩
theorem internal_stringslite_HasSuffix.meets : Meets Try.prog 177 internal_stringslite_HasSuffix.S := meets_tab (S := internal_stringslite_HasSuffix.U) tabOk_all AllMeets.nil AllStill.nil follows (by kernel_rfl : Try.prog.funcs[177]? = some Try.f177) (by kernel_rfl) (by kernel_rfl) (by kernel_rfl)
noncomputable def strings_HasSuffix.C : Code := Try.f168.body.getD .skip
def strings_HasSuffix.P : Par := (.cons (.val .str) (.cons (.val .str) .nil))
noncomputable def strings_HasSuffix.U : SumTab := [(177, [], internal_stringslite_HasSuffix.S)]
noncomputable def strings_HasSuffix.E : Env := mkEnv TY AR strings_HasSuffix.U
noncomputable def strings_HasSuffix.T : Tab := fun k => look k []
def strings_HasSuffix.R : List (Nat × Ty) := [(0, .bool)]
def strings_HasSuffix.X : List ResultVar := [.tmp 4]
noncomputable def strings_HasSuffix.f (s : ByteArray) (suffix : ByteArray) : Option (Bool) := Fn strings_HasSuffix.E strings_HasSuffix.T strings_HasSuffix.C strings_HasSuffix.P strings_HasSuffix.R strings_HasSuffix.X (s, suffix)
theorem strings_HasSuffix.f_eq (s : ByteArray) (suffix : ByteArray) : strings_HasSuffix.f s suffix =
  ((internal_stringslite_HasSuffix.f s suffix).bind fun y1 =>
  some y1) := by kernel_rfl
noncomputable def strings_HasSuffix.S : Abs.Sum := ⟨strings_HasSuffix.P, strings_HasSuffix.R, fun _ => Fn strings_HasSuffix.E strings_HasSuffix.T strings_HasSuffix.C strings_HasSuffix.P strings_HasSuffix.R strings_HasSuffix.X⟩
theorem strings_HasSuffix.meets : Meets Try.prog 168 strings_HasSuffix.S := meets_tab (S := strings_HasSuffix.U) tabOk_all (AllMeets.cons internal_stringslite_HasSuffix.meets AllMeets.nil) (AllStill.cons (fun _ _ _ => rfl) AllStill.nil) follows (by kernel_rfl : Try.prog.funcs[168]? = some Try.f168) (by kernel_rfl) (by kernel_rfl) (by kernel_rfl)
noncomputable def impl_isEnded.C : Code := Try.f134.body.getD .skip
def impl_isEnded.P : Par := (.cons (.val .str) .nil)
noncomputable def impl_isEnded.U : SumTab := [(168, [], strings_HasSuffix.S)]
noncomputable def impl_isEnded.E : Env := mkEnv TY AR impl_isEnded.U
noncomputable def impl_isEnded.T : Tab := fun k => look k []
def impl_isEnded.R : List (Nat × Ty) := [(0, .bool)]
def impl_isEnded.X : List ResultVar := [.tmp 2]
noncomputable def impl_isEnded.f (line : ByteArray) : Option (Bool) := Fn impl_isEnded.E impl_isEnded.T impl_isEnded.C impl_isEnded.P impl_isEnded.R impl_isEnded.X line
theorem impl_isEnded.f_eq (line : ByteArray) : impl_isEnded.f line =
  ((strings_HasSuffix.f line (⟨#[10]⟩ : ByteArray)).bind fun y1 =>
  some y1) := by kernel_rfl
noncomputable def impl_isEnded.S : Abs.Sum := ⟨impl_isEnded.P, impl_isEnded.R, fun _ => Fn impl_isEnded.E impl_isEnded.T impl_isEnded.C impl_isEnded.P impl_isEnded.R impl_isEnded.X⟩
theorem impl_isEnded.meets : Meets Try.prog 134 impl_isEnded.S := meets_tab (S := impl_isEnded.U) tabOk_all (AllMeets.cons strings_HasSuffix.meets AllMeets.nil) (AllStill.cons (fun _ _ _ => rfl) AllStill.nil) follows (by kernel_rfl : Try.prog.funcs[134]? = some Try.f134) (by kernel_rfl) (by kernel_rfl) (by kernel_rfl)
noncomputable def impl_goodLines.C : Code := Try.f78.body.getD .skip
def impl_goodLines.P : Par := (.cons (.val (.list .str)) .nil)
noncomputable def impl_goodLines.U : SumTab := [(79, [], impl_areLines.S), (134, [], impl_isEnded.S)]
noncomputable def impl_goodLines.E : Env := mkEnv TY AR impl_goodLines.U
def impl_goodLines.D8 : CutD := ⟨[0, 8, 9, 10], (.cons (.val (.list .str)) (.cons (.val (.list .str)) (.cons (.val (.int .i64)) (.cons (.val (.int .i64)) .nil))))⟩
noncomputable def impl_goodLines.T : Tab := fun k => look k [(8, impl_goodLines.D8)]
def impl_goodLines.R : List (Nat × Ty) := [(0, .bool)]
def impl_goodLines.X : List ResultVar := [.tmp 2]
noncomputable def impl_goodLines.K := fin impl_goodLines.E ⟨impl_goodLines.P, impl_goodLines.R, fun _ _ => none⟩ impl_goodLines.X impl_goodLines.P.len 0
noncomputable def impl_goodLines.l8 (l : List ByteArray) (t8 : List ByteArray) (t9 : Int) (t10 : Int) : Option (Bool) := fixP impl_goodLines.E impl_goodLines.T impl_goodLines.C impl_goodLines.K 8 impl_goodLines.D8 (l, t8, t9, t10)
noncomputable def impl_goodLines.f (l : List ByteArray) : Option (Bool) := Fn impl_goodLines.E impl_goodLines.T impl_goodLines.C impl_goodLines.P impl_goodLines.R impl_goodLines.X l
theorem impl_goodLines.l8_eq (l : List ByteArray) (t8 : List ByteArray) (t9 : Int) (t10 : Int) : impl_goodLines.l8 l t8 t9 t10 =
  (bif (decide (t10 < t9)) then (bif ((decide (0 ≤ t10)) && (decide (t10 < (t8.length : Int)))) then (bif (decide (t10 < (w64 ((l.length : Int) - 1)))) then ((impl_isEnded.f (t8.getD (t10).toNat em)).bind fun y1 =>
     bif (!y1) then (some false) else
     (impl_goodLines.l8 l t8 t9 (w64 (t10 + 1)))) else
    (impl_goodLines.l8 l t8 t9 (w64 (t10 + 1)))) else none) else (some true)) :=
  (fixP_eq impl_goodLines.E impl_goodLines.T impl_goodLines.C impl_goodLines.K 8 impl_goodLines.D8 (l, t8, t9, t10)).trans (by kernel_rfl)
theorem impl_goodLines.f_eq (l : List ByteArray) : impl_goodLines.f l =
  ((impl_areLines.f l).bind fun y1 =>
  bif (!y1) then (some false) else
  (impl_goodLines.l8 l l (l.length : Int) 0)) := by kernel_rfl
noncomputable def impl_goodLines.S : Abs.Sum := ⟨impl_goodLines.P, impl_goodLines.R, fun _ => Fn impl_goodLines.E impl_goodLines.T impl_goodLines.C impl_goodLines.P impl_goodLines.R impl_goodLines.X⟩
theorem impl_goodLines.meets : Meets Try.prog 78 impl_goodLines.S := meets_tab (S := impl_goodLines.U) tabOk_all (AllMeets.cons impl_areLines.meets (AllMeets.cons impl_isEnded.meets AllMeets.nil)) (AllStill.cons (fun _ _ _ => rfl) (AllStill.cons (fun _ _ _ => rfl) AllStill.nil)) follows (by kernel_rfl : Try.prog.funcs[78]? = some Try.f78) (by kernel_rfl) (by kernel_rfl) (by kernel_rfl)
noncomputable def spec_l1Most.C : Code := Try.f175.body.getD .skip
def spec_l1Most.P : Par := (.cons (.val (.int .i64)) (.cons (.val (.int .i64)) .nil))
noncomputable def spec_l1Most.U : SumTab := []
noncomputable def spec_l1Most.E : Env := mkEnv TY AR spec_l1Most.U
noncomputable def spec_l1Most.T : Tab := fun k => look k []
def spec_l1Most.R : List (Nat × Ty) := [(0, .int .i64)]
def spec_l1Most.X : List ResultVar := [.tmp 4]
noncomputable def spec_l1Most.f (a : Int) (b : Int) : Option (Int) := Fn spec_l1Most.E spec_l1Most.T spec_l1Most.C spec_l1Most.P spec_l1Most.R spec_l1Most.X (a, b)
theorem spec_l1Most.f_eq (a : Int) (b : Int) : spec_l1Most.f a b =
  (bif (decide (a > b)) then (some a) else (some b)) := by kernel_rfl
noncomputable def spec_l1Most.S : Abs.Sum := ⟨spec_l1Most.P, spec_l1Most.R, fun _ => Fn spec_l1Most.E spec_l1Most.T spec_l1Most.C spec_l1Most.P spec_l1Most.R spec_l1Most.X⟩
theorem spec_l1Most.meets : Meets Try.prog 175 spec_l1Most.S := meets_tab (S := spec_l1Most.U) tabOk_all AllMeets.nil AllStill.nil follows (by kernel_rfl : Try.prog.funcs[175]? = some Try.f175) (by kernel_rfl) (by kernel_rfl) (by kernel_rfl)
noncomputable def spec_l3Table.C : Code := Try.f164.body.getD .skip
def spec_l3Table.P : Par := (.cons (.val (.list .str)) (.cons (.val (.list .str)) .nil))
noncomputable def spec_l3Table.U : SumTab := [(175, [], spec_l1Most.S)]
noncomputable def spec_l3Table.E : Env := mkEnv TY AR spec_l3Table.U
def spec_l3Table.D6 : CutD := ⟨[0, 1, 5, 14, 15], (.cons (.val (.list .str)) (.cons (.val (.list .str)) (.cons (.own 9 (.list (.int .i64))) (.cons (.val (.int .i64)) (.cons (.val (.int .i64)) .nil)))))⟩
def spec_l3Table.D16 : CutD := ⟨[0, 1, 5, 7], (.cons (.val (.list .str)) (.cons (.val (.list .str)) (.cons (.own 9 (.list (.int .i64))) (.cons (.val (.int .i64)) .nil))))⟩
def spec_l3Table.D22 : CutD := ⟨[0, 1, 5, 7, 8], (.cons (.val (.list .str)) (.cons (.val (.list .str)) (.cons (.own 9 (.list (.int .i64))) (.cons (.val (.int .i64)) (.cons (.val (.int .i64)) .nil)))))⟩
noncomputable def spec_l3Table.T : Tab := fun k => look k [(6, spec_l3Table.D6), (16, spec_l3Table.D16), (22, spec_l3Table.D22)]
def spec_l3Table.R : List (Nat × Ty) := [(9, .list (.list (.int .i64)))]
def spec_l3Table.X : List ResultVar := [.tmp 4]
noncomputable def spec_l3Table.K := fin spec_l3Table.E ⟨spec_l3Table.P, spec_l3Table.R, fun _ _ => none⟩ spec_l3Table.X spec_l3Table.P.len 0
noncomputable def spec_l3Table.l6 (a : List ByteArray) (b : List ByteArray) (t : List (List Int)) (t14 : Int) (t15 : Int) : Option ((List (List Int))) := fixP spec_l3Table.E spec_l3Table.T spec_l3Table.C spec_l3Table.K 6 spec_l3Table.D6 (a, b, t, t14, t15)
noncomputable def spec_l3Table.l16 (a : List ByteArray) (b : List ByteArray) (t : List (List Int)) (i : Int) : Option ((List (List Int))) := fixP spec_l3Table.E spec_l3Table.T spec_l3Table.C spec_l3Table.K 16 spec_l3Table.D16 (a, b, t, i)
noncomputable def spec_l3Table.l22 (a : List ByteArray) (b : List ByteArray) (t : List (List Int)) (i : Int) (j : Int) : Option ((List (List Int))) := fixP spec_l3Table.E spec_l3Table.T spec_l3Table.C spec_l3Table.K 22 spec_l3Table.D22 (a, b, t, i, j)
noncomputable def spec_l3Table.f (a : List ByteArray) (b : List ByteArray) : Option ((List (List Int))) := Fn spec_l3Table.E spec_l3Table.T spec_l3Table.C spec_l3Table.P spec_l3Table.R spec_l3Table.X (a, b)
theorem spec_l3Table.l6_eq (a : List ByteArray) (b : List ByteArray) (t : List (List Int)) (t14 : Int) (t15 : Int) : spec_l3Table.l6 a b t t14 t15 =
  (bif (decide (t15 < t14)) then (bif ((decide (0 ≤ (w64 ((b.length : Int) + 1)))) && (decide (((w64 ((b.length : Int) + 1))).toNat ≤ room 8))) then (bif ((decide (0 ≤ t15)) && (decide (t15 < (t.length : Int)))) then (spec_l3Table.l6 a b (t.set (t15).toNat (List.replicate ((w64 ((b.length : Int) + 1))).toNat 0)) t14 (w64 (t15 + 1))) else none) else none) else
  (spec_l3Table.l16 a b t (w64 ((a.length : Int) - 1)))) :=
  (fixP_eq spec_l3Table.E spec_l3Table.T spec_l3Table.C spec_l3Table.K 6 spec_l3Table.D6 (a, b, t, t14, t15)).trans (by kernel_rfl)
theorem spec_l3Table.l16_eq (a : List ByteArray) (b : List ByteArray) (t : List (List Int)) (i : Int) : spec_l3Table.l16 a b t i =
  (bif (decide (i ≥ 0)) then (spec_l3Table.l22 a b t i (w64 ((b.length : Int) - 1))) else (some t)) :=
  (fixP_eq spec_l3Table.E spec_l3Table.T spec_l3Table.C spec_l3Table.K 16 spec_l3Table.D16 (a, b, t, i)).trans (by kernel_rfl)
theorem spec_l3Table.l22_eq (a : List ByteArray) (b : List ByteArray) (t : List (List Int)) (i : Int) (j : Int) : spec_l3Table.l22 a b t i j =
  (bif (decide (j ≥ 0)) then (bif ((decide (0 ≤ i)) && (decide (i < (t.length : Int)))) then (bif ((decide (0 ≤ (w64 (i + 1)))) && (decide ((w64 (i + 1)) < (t.length : Int)))) then (bif ((decide (0 ≤ j)) && (decide (j < ((t.getD ((w64 (i + 1))).toNat ([] : List Int)).length : Int)))) then (bif ((decide (0 ≤ i)) && (decide (i < (t.length : Int)))) then (bif ((decide (0 ≤ (w64 (j + 1)))) && (decide ((w64 (j + 1)) < ((t.getD (i).toNat ([] : List Int)).length : Int)))) then ((spec_l1Most.f ((t.getD ((w64 (i + 1))).toNat ([] : List Int)).getD (j).toNat 0) ((t.getD (i).toNat ([] : List Int)).getD ((w64 (j + 1))).toNat 0)).bind fun y1 =>
        bif ((decide (0 ≤ j)) && (decide (j < ((t.getD (i).toNat ([] : List Int)).length : Int)))) then (bif ((decide (0 ≤ i)) && (decide (i < (a.length : Int)))) then (bif ((decide (0 ≤ j)) && (decide (j < (b.length : Int)))) then (bif ((a.getD (i).toNat em).toList == (b.getD (j).toNat em).toList) then (bif ((decide (0 ≤ i)) && (decide (i < ((t.set (i).toNat ((t.getD (i).toNat ([] : List Int)).set (j).toNat y1)).length : Int)))) then (bif ((decide (0 ≤ i)) && (decide (i < ((t.set (i).toNat ((t.getD (i).toNat ([] : List Int)).set (j).toNat y1)).length : Int)))) then (bif ((decide (0 ≤ j)) && (decide (j < (((t.set (i).toNat ((t.getD (i).toNat ([] : List Int)).set (j).toNat y1)).getD (i).toNat ([] : List Int)).length : Int)))) then (bif ((decide (0 ≤ (w64 (i + 1)))) && (decide ((w64 (i + 1)) < ((t.set (i).toNat ((t.getD (i).toNat ([] : List Int)).set (j).toNat y1)).length : Int)))) then (bif ((decide (0 ≤ (w64 (j + 1)))) && (decide ((w64 (j + 1)) < (((t.set (i).toNat ((t.getD (i).toNat ([] : List Int)).set (j).toNat y1)).getD ((w64 (i + 1))).toNat ([] : List Int)).length : Int)))) then ((spec_l1Most.f (((t.set (i).toNat ((t.getD (i).toNat ([] : List Int)).set (j).toNat y1)).getD (i).toNat ([] : List Int)).getD (j).toNat 0) (w64 ((((t.set (i).toNat ((t.getD (i).toNat ([] : List Int)).set (j).toNat y1)).getD ((w64 (i + 1))).toNat ([] : List Int)).getD ((w64 (j + 1))).toNat 0) + 1))).bind fun y2 =>
                 bif ((decide (0 ≤ j)) && (decide (j < (((t.set (i).toNat ((t.getD (i).toNat ([] : List Int)).set (j).toNat y1)).getD (i).toNat ([] : List Int)).length : Int)))) then (spec_l3Table.l22 a b ((t.set (i).toNat ((t.getD (i).toNat ([] : List Int)).set (j).toNat y1)).set (i).toNat (((t.set (i).toNat ((t.getD (i).toNat ([] : List Int)).set (j).toNat y1)).getD (i).toNat ([] : List Int)).set (j).toNat y2)) i (w64 (j - 1))) else none) else none) else none) else none) else none) else none) else
           (spec_l3Table.l22 a b (t.set (i).toNat ((t.getD (i).toNat ([] : List Int)).set (j).toNat y1)) i (w64 (j - 1)))) else none) else none) else none) else none) else none) else none) else none) else none) else
  (spec_l3Table.l16 a b t (w64 (i - 1)))) :=
  (fixP_eq spec_l3Table.E spec_l3Table.T spec_l3Table.C spec_l3Table.K 22 spec_l3Table.D22 (a, b, t, i, j)).trans (by kernel_rfl)
theorem spec_l3Table.f_eq (a : List ByteArray) (b : List ByteArray) : spec_l3Table.f a b =
  (bif ((decide (0 ≤ (w64 ((a.length : Int) + 1)))) && (decide (((w64 ((a.length : Int) + 1))).toNat ≤ room 24))) then (spec_l3Table.l6 a b (List.replicate ((w64 ((a.length : Int) + 1))).toNat ([] : List Int)) ((List.replicate ((w64 ((a.length : Int) + 1))).toNat ([] : List Int)).length : Int) 0) else none) := by kernel_rfl
noncomputable def spec_l3Table.S : Abs.Sum := ⟨spec_l3Table.P, spec_l3Table.R, fun _ => Fn spec_l3Table.E spec_l3Table.T spec_l3Table.C spec_l3Table.P spec_l3Table.R spec_l3Table.X⟩
theorem spec_l3Table.meets : Meets Try.prog 164 spec_l3Table.S := meets_tab (S := spec_l3Table.U) tabOk_all (AllMeets.cons spec_l1Most.meets AllMeets.nil) (AllStill.cons (fun _ _ _ => rfl) AllStill.nil) follows (by kernel_rfl : Try.prog.funcs[164]? = some Try.f164) (by kernel_rfl) (by kernel_rfl) (by kernel_rfl)
noncomputable def spec_l3Pairs.C : Code := Try.f140.body.getD .skip
def spec_l3Pairs.P : Par := (.cons (.val (.list .str)) (.cons (.val (.list .str)) .nil))
noncomputable def spec_l3Pairs.U : SumTab := [(164, [], spec_l3Table.S)]
noncomputable def spec_l3Pairs.E : Env := mkEnv TY AR spec_l3Pairs.U
def spec_l3Pairs.D8 : CutD := ⟨[0, 1, 5, 6, 7, 8], (.cons (.val (.list .str)) (.cons (.val (.list .str)) (.cons (.own 8 (.list (.int .i64))) (.cons (.own 9 (.pair (.int .i64) (.one (.int .i64)))) (.cons (.val (.int .i64)) (.cons (.val (.int .i64)) .nil))))))⟩
def spec_l3Pairs.D14 : CutD := ⟨[0, 1, 5, 6, 7, 8, 9, 10, 11], (.cons (.val (.list .str)) (.cons (.val (.list .str)) (.cons (.own 8 (.list (.int .i64))) (.cons (.own 9 (.pair (.int .i64) (.one (.int .i64)))) (.cons (.val (.int .i64)) (.cons (.val (.int .i64)) (.cons (.val (.int .i64)) (.cons (.val (.int .i64)) (.cons (.val (.int .i64)) .nil)))))))))⟩
def spec_l3Pairs.D20 : CutD := ⟨[0, 1, 5, 6, 7, 8, 9, 10, 11, 12], (.cons (.val (.list .str)) (.cons (.val (.list .str)) (.cons (.own 8 (.list (.int .i64))) (.cons (.own 9 (.pair (.int .i64) (.one (.int .i64)))) (.cons (.val (.int .i64)) (.cons (.val (.int .i64)) (.cons (.val (.int .i64)) (.cons (.val (.int .i64)) (.cons (.val (.int .i64)) (.cons (.val (.int .i64)) .nil))))))))))⟩
noncomputable def spec_l3Pairs.T : Tab := fun k => look k [(8, spec_l3Pairs.D8), (14, spec_l3Pairs.D14), (20, spec_l3Pairs.D20)]
def spec_l3Pairs.R : List (Nat × Ty) := [(9, .list (.pair (.int .i64) (.one (.int .i64))))]
def spec_l3Pairs.X : List ResultVar := [.tmp 4]
noncomputable def spec_l3Pairs.K := fin spec_l3Pairs.E ⟨spec_l3Pairs.P, spec_l3Pairs.R, fun _ _ => none⟩ spec_l3Pairs.X spec_l3Pairs.P.len 0
noncomputable def spec_l3Pairs.l8 (a : List ByteArray) (b : List ByteArray) (t : List (List Int)) (out : List (Int × Int)) (i : Int) (j : Int) : Option ((List (Int × Int))) := fixP spec_l3Pairs.E spec_l3Pairs.T spec_l3Pairs.C spec_l3Pairs.K 8 spec_l3Pairs.D8 (a, b, t, out, i, j)
noncomputable def spec_l3Pairs.l14 (a : List ByteArray) (b : List ByteArray) (t : List (List Int)) (out : List (Int × Int)) (i : Int) (j : Int) (x : Int) (y : Int) (p : Int) : Option ((List (Int × Int))) := fixP spec_l3Pairs.E spec_l3Pairs.T spec_l3Pairs.C spec_l3Pairs.K 14 spec_l3Pairs.D14 (a, b, t, out, i, j, x, y, p)
noncomputable def spec_l3Pairs.l20 (a : List ByteArray) (b : List ByteArray) (t : List (List Int)) (out : List (Int × Int)) (i : Int) (j : Int) (x : Int) (y : Int) (p : Int) (q : Int) : Option ((List (Int × Int))) := fixP spec_l3Pairs.E spec_l3Pairs.T spec_l3Pairs.C spec_l3Pairs.K 20 spec_l3Pairs.D20 (a, b, t, out, i, j, x, y, p, q)
noncomputable def spec_l3Pairs.f (a : List ByteArray) (b : List ByteArray) : Option ((List (Int × Int))) := Fn spec_l3Pairs.E spec_l3Pairs.T spec_l3Pairs.C spec_l3Pairs.P spec_l3Pairs.R spec_l3Pairs.X (a, b)
theorem spec_l3Pairs.l8_eq (a : List ByteArray) (b : List ByteArray) (t : List (List Int)) (out : List (Int × Int)) (i : Int) (j : Int) : spec_l3Pairs.l8 a b t out i j =
  (bif ((decide (0 ≤ i)) && (decide (i < (t.length : Int)))) then (bif ((decide (0 ≤ j)) && (decide (j < ((t.getD (i).toNat ([] : List Int)).length : Int)))) then (bif (decide (((t.getD (i).toNat ([] : List Int)).getD (j).toNat 0) > 0)) then (spec_l3Pairs.l14 a b t out i j (a.length : Int) (b.length : Int) (w64 ((a.length : Int) - 1))) else (some out)) else none) else none) :=
  (fixP_eq spec_l3Pairs.E spec_l3Pairs.T spec_l3Pairs.C spec_l3Pairs.K 8 spec_l3Pairs.D8 (a, b, t, out, i, j)).trans (by kernel_rfl)
theorem spec_l3Pairs.l14_eq (a : List ByteArray) (b : List ByteArray) (t : List (List Int)) (out : List (Int × Int)) (i : Int) (j : Int) (x : Int) (y : Int) (p : Int) : spec_l3Pairs.l14 a b t out i j x y p =
  (bif (decide (p ≥ i)) then (spec_l3Pairs.l20 a b t out i j x y p (w64 ((b.length : Int) - 1))) else
  (bif (decide ((out.length + [(x, y)].length) ≤ room 16)) then (spec_l3Pairs.l8 a b t (out ++ [(x, y)]) (w64 (x + 1)) (w64 (y + 1))) else none)) :=
  (fixP_eq spec_l3Pairs.E spec_l3Pairs.T spec_l3Pairs.C spec_l3Pairs.K 14 spec_l3Pairs.D14 (a, b, t, out, i, j, x, y, p)).trans (by kernel_rfl)
theorem spec_l3Pairs.l20_eq (a : List ByteArray) (b : List ByteArray) (t : List (List Int)) (out : List (Int × Int)) (i : Int) (j : Int) (x : Int) (y : Int) (p : Int) (q : Int) : spec_l3Pairs.l20 a b t out i j x y p q =
  (bif (decide (q ≥ j)) then (bif ((decide (0 ≤ p)) && (decide (p < (a.length : Int)))) then (bif ((decide (0 ≤ q)) && (decide (q < (b.length : Int)))) then (bif ((a.getD (p).toNat em).toList == (b.getD (q).toNat em).toList) then (bif ((decide (0 ≤ (w64 (p + 1)))) && (decide ((w64 (p + 1)) < (t.length : Int)))) then (bif ((decide (0 ≤ (w64 (q + 1)))) && (decide ((w64 (q + 1)) < ((t.getD ((w64 (p + 1))).toNat ([] : List Int)).length : Int)))) then (bif ((decide (0 ≤ i)) && (decide (i < (t.length : Int)))) then (bif ((decide (0 ≤ j)) && (decide (j < ((t.getD (i).toNat ([] : List Int)).length : Int)))) then (bif (decide ((w64 (((t.getD ((w64 (p + 1))).toNat ([] : List Int)).getD ((w64 (q + 1))).toNat 0) + 1)) = ((t.getD (i).toNat ([] : List Int)).getD (j).toNat 0))) then (spec_l3Pairs.l20 a b t out i j p q p (w64 (q - 1))) else
          (spec_l3Pairs.l20 a b t out i j x y p (w64 (q - 1)))) else none) else none) else none) else none) else
     (spec_l3Pairs.l20 a b t out i j x y p (w64 (q - 1)))) else none) else none) else
  (spec_l3Pairs.l14 a b t out i j x y (w64 (p - 1)))) :=
  (fixP_eq spec_l3Pairs.E spec_l3Pairs.T spec_l3Pairs.C spec_l3Pairs.K 20 spec_l3Pairs.D20 (a, b, t, out, i, j, x, y, p, q)).trans (by kernel_rfl)
theorem spec_l3Pairs.f_eq (a : List ByteArray) (b : List ByteArray) : spec_l3Pairs.f a b =
  ((spec_l3Table.f a b).bind fun y1 =>
  spec_l3Pairs.l8 a b y1 ([] : List (Int × Int)) 0 0) := by kernel_rfl
noncomputable def spec_l3Pairs.S : Abs.Sum := ⟨spec_l3Pairs.P, spec_l3Pairs.R, fun _ => Fn spec_l3Pairs.E spec_l3Pairs.T spec_l3Pairs.C spec_l3Pairs.P spec_l3Pairs.R spec_l3Pairs.X⟩
theorem spec_l3Pairs.meets : Meets Try.prog 140 spec_l3Pairs.S := meets_tab (S := spec_l3Pairs.U) tabOk_all (AllMeets.cons spec_l3Table.meets AllMeets.nil) (AllStill.cons (fun _ _ _ => rfl) AllStill.nil) follows (by kernel_rfl : Try.prog.funcs[140]? = some Try.f140) (by kernel_rfl) (by kernel_rfl) (by kernel_rfl)
noncomputable def spec_l1OwnT.C : Code := Try.f106.body.getD .skip
def spec_l1OwnT.P : Par := (.cons (.val (.list .str)) .nil)
noncomputable def spec_l1OwnT.U : SumTab := []
noncomputable def spec_l1OwnT.E : Env := mkEnv TY AR spec_l1OwnT.U
noncomputable def spec_l1OwnT.T : Tab := fun k => look k []
def spec_l1OwnT.R : List (Nat × Ty) := [(9, .list .str)]
def spec_l1OwnT.X : List ResultVar := [.tmp 2]
noncomputable def spec_l1OwnT.f (l : List ByteArray) : Option ((List ByteArray)) := Fn spec_l1OwnT.E spec_l1OwnT.T spec_l1OwnT.C spec_l1OwnT.P spec_l1OwnT.R spec_l1OwnT.X l
theorem spec_l1OwnT.f_eq (l : List ByteArray) : spec_l1OwnT.f l =
  (bif (decide ((([] : List ByteArray).length + l.length) ≤ room 16)) then (some (([] : List ByteArray) ++ l)) else none) := by kernel_rfl
noncomputable def spec_l1OwnT.S : Abs.Sum := ⟨spec_l1OwnT.P, spec_l1OwnT.R, fun _ => Fn spec_l1OwnT.E spec_l1OwnT.T spec_l1OwnT.C spec_l1OwnT.P spec_l1OwnT.R spec_l1OwnT.X⟩
theorem spec_l1OwnT.meets : Meets Try.prog 106 spec_l1OwnT.S := meets_tab (S := spec_l1OwnT.U) tabOk_all AllMeets.nil AllStill.nil follows (by kernel_rfl : Try.prog.funcs[106]? = some Try.f106) (by kernel_rfl) (by kernel_rfl) (by kernel_rfl)
noncomputable def spec_l2Join.C : Code := Try.f139.body.getD .skip
def spec_l2Join.P : Par := (.cons (.val (.list .str)) (.cons (.val (.list .str)) (.cons (.own 5 (.pair (.int .i64) (.one (.int .i64)))) .nil)))
noncomputable def spec_l2Join.U : SumTab := [(106, [], spec_l1OwnT.S)]
noncomputable def spec_l2Join.E : Env := mkEnv TY AR spec_l2Join.U
def spec_l2Join.D8 : CutD := ⟨[1, 7, 8, 9, 19, 20, 21], (.cons (.val (.list .str)) (.cons (.own 9 (.pair (.int .i64) (.pair (.int .i64) (.one (.list .str))))) (.cons (.val (.int .i64)) (.cons (.val (.int .i64)) (.cons (.own 9 (.pair (.int .i64) (.one (.int .i64)))) (.cons (.val (.int .i64)) (.cons (.val (.int .i64)) .nil)))))))⟩
def spec_l2Join.D17 : CutD := ⟨[1, 7, 11, 19, 20, 21], (.cons (.val (.list .str)) (.cons (.own 9 (.pair (.int .i64) (.pair (.int .i64) (.one (.list .str))))) (.cons (.box 9 (.pair (.int .i64) (.one (.int .i64)))) (.cons (.own 9 (.pair (.int .i64) (.one (.int .i64)))) (.cons (.val (.int .i64)) (.cons (.val (.int .i64)) .nil))))))⟩
noncomputable def spec_l2Join.T : Tab := fun k => look k [(8, spec_l2Join.D8), (17, spec_l2Join.D17)]
def spec_l2Join.R : List (Nat × Ty) := [(9, .list (.pair (.int .i64) (.pair (.int .i64) (.one (.list .str)))))]
def spec_l2Join.X : List ResultVar := [.tmp 6]
noncomputable def spec_l2Join.K := fin spec_l2Join.E ⟨spec_l2Join.P, spec_l2Join.R, fun _ _ => none⟩ spec_l2Join.X spec_l2Join.P.len 0
noncomputable def spec_l2Join.l8 (last : List ByteArray) (out : List (Int × Int × List ByteArray)) (i : Int) (j : Int) (t19 : List (Int × Int)) (t20 : Int) (t21 : Int) : Option ((List (Int × Int × List ByteArray))) := fixP spec_l2Join.E spec_l2Join.T spec_l2Join.C spec_l2Join.K 8 spec_l2Join.D8 (last, out, i, j, t19, t20, t21)
noncomputable def spec_l2Join.l17 (last : List ByteArray) (out : List (Int × Int × List ByteArray)) (s : Int × Int) (t19 : List (Int × Int)) (t20 : Int) (t21 : Int) : Option ((List (Int × Int × List ByteArray))) := fixP spec_l2Join.E spec_l2Join.T spec_l2Join.C spec_l2Join.K 17 spec_l2Join.D17 (last, out, s, t19, t20, t21)
noncomputable def spec_l2Join.f (first : List ByteArray) (last : List ByteArray) (stay : List (Int × Int)) : Option ((List (Int × Int × List ByteArray))) := Fn spec_l2Join.E spec_l2Join.T spec_l2Join.C spec_l2Join.P spec_l2Join.R spec_l2Join.X (first, last, stay)
theorem spec_l2Join.l8_eq (last : List ByteArray) (out : List (Int × Int × List ByteArray)) (i : Int) (j : Int) (t19 : List (Int × Int)) (t20 : Int) (t21 : Int) : spec_l2Join.l8 last out i j t19 t20 t21 =
  (bif (decide (t21 < t20)) then (bif ((decide (0 ≤ t21)) && (decide (t21 < (t19.length : Int)))) then (bif (decide ((t19.getD (t21).toNat (0, 0)).1 > i)) then (bif ((decide (0 ≤ j)) && ((decide (j ≤ (t19.getD (t21).toNat (0, 0)).2)) && (decide ((t19.getD (t21).toNat (0, 0)).2 ≤ (last.length : Int))))) then ((spec_l1OwnT.f ((last.take ((t19.getD (t21).toNat (0, 0)).2).toNat).drop (j).toNat)).bind fun y1 =>
      bif (decide ((out.length + [(i, (w64 ((t19.getD (t21).toNat (0, 0)).1 - i)), y1)].length) ≤ room 40)) then (spec_l2Join.l17 last (out ++ [(i, (w64 ((t19.getD (t21).toNat (0, 0)).1 - i)), y1)]) (t19.getD (t21).toNat (0, 0)) t19 t20 t21) else none) else none) else
    (bif (decide ((t19.getD (t21).toNat (0, 0)).2 > j)) then (bif ((decide (0 ≤ j)) && ((decide (j ≤ (t19.getD (t21).toNat (0, 0)).2)) && (decide ((t19.getD (t21).toNat (0, 0)).2 ≤ (last.length : Int))))) then ((spec_l1OwnT.f ((last.take ((t19.getD (t21).toNat (0, 0)).2).toNat).drop (j).toNat)).bind fun y1 =>
       bif (decide ((out.length + [(i, (w64 ((t19.getD (t21).toNat (0, 0)).1 - i)), y1)].length) ≤ room 40)) then (spec_l2Join.l17 last (out ++ [(i, (w64 ((t19.getD (t21).toNat (0, 0)).1 - i)), y1)]) (t19.getD (t21).toNat (0, 0)) t19 t20 t21) else none) else none) else
     (spec_l2Join.l17 last out (t19.getD (t21).toNat (0, 0)) t19 t20 t21))) else none) else (some out)) :=
  (fixP_eq spec_l2Join.E spec_l2Join.T spec_l2Join.C spec_l2Join.K 8 spec_l2Join.D8 (last, out, i, j, t19, t20, t21)).trans (by kernel_rfl)
theorem spec_l2Join.l17_eq (last : List ByteArray) (out : List (Int × Int × List ByteArray)) (s : Int × Int) (t19 : List (Int × Int)) (t20 : Int) (t21 : Int) : spec_l2Join.l17 last out s t19 t20 t21 =
  (spec_l2Join.l8 last out (w64 (s.1 + 1)) (w64 (s.2 + 1)) t19 t20 (w64 (t21 + 1))) :=
  (fixP_eq spec_l2Join.E spec_l2Join.T spec_l2Join.C spec_l2Join.K 17 spec_l2Join.D17 (last, out, s, t19, t20, t21)).trans (by kernel_rfl)
theorem spec_l2Join.f_eq (first : List ByteArray) (last : List ByteArray) (stay : List (Int × Int)) : spec_l2Join.f first last stay =
  (bif (decide ((stay.length + [((first.length : Int), (last.length : Int))].length) ≤ room 16)) then (spec_l2Join.l8 last ([] : List (Int × Int × List ByteArray)) 0 0 (stay ++ [((first.length : Int), (last.length : Int))]) ((stay ++ [((first.length : Int), (last.length : Int))]).length : Int) 0) else none) := by kernel_rfl
noncomputable def spec_l2Join.S : Abs.Sum := ⟨spec_l2Join.P, spec_l2Join.R, fun _ => Fn spec_l2Join.E spec_l2Join.T spec_l2Join.C spec_l2Join.P spec_l2Join.R spec_l2Join.X⟩
theorem spec_l2Join.meets : Meets Try.prog 139 spec_l2Join.S := meets_tab (S := spec_l2Join.U) tabOk_all (AllMeets.cons spec_l1OwnT.meets AllMeets.nil) (AllStill.cons (fun _ _ _ => rfl) AllStill.nil) follows (by kernel_rfl : Try.prog.funcs[139]? = some Try.f139) (by kernel_rfl) (by kernel_rfl) (by kernel_rfl)
noncomputable def spec_l3Diff.C : Code := Try.f82.body.getD .skip
def spec_l3Diff.P : Par := (.cons (.val (.list .str)) (.cons (.val (.list .str)) .nil))
noncomputable def spec_l3Diff.U : SumTab := [(140, [], spec_l3Pairs.S), (139, [], spec_l2Join.S)]
noncomputable def spec_l3Diff.E : Env := mkEnv TY AR spec_l3Diff.U
noncomputable def spec_l3Diff.T : Tab := fun k => look k []
def spec_l3Diff.R : List (Nat × Ty) := [(9, .list (.pair (.int .i64) (.pair (.int .i64) (.one (.list .str)))))]
def spec_l3Diff.X : List ResultVar := [.tmp 4]
noncomputable def spec_l3Diff.f (a : List ByteArray) (b : List ByteArray) : Option ((List (Int × Int × List ByteArray))) := Fn spec_l3Diff.E spec_l3Diff.T spec_l3Diff.C spec_l3Diff.P spec_l3Diff.R spec_l3Diff.X (a, b)
theorem spec_l3Diff.f_eq (a : List ByteArray) (b : List ByteArray) : spec_l3Diff.f a b =
  ((spec_l3Pairs.f a b).bind fun y1 =>
  (spec_l2Join.f a b y1).bind fun y2 =>
  some y2) := by kernel_rfl
noncomputable def spec_l3Diff.S : Abs.Sum := ⟨spec_l3Diff.P, spec_l3Diff.R, fun _ => Fn spec_l3Diff.E spec_l3Diff.T spec_l3Diff.C spec_l3Diff.P spec_l3Diff.R spec_l3Diff.X⟩
theorem spec_l3Diff.meets : Meets Try.prog 82 spec_l3Diff.S := meets_tab (S := spec_l3Diff.U) tabOk_all (AllMeets.cons spec_l3Pairs.meets (AllMeets.cons spec_l2Join.meets AllMeets.nil)) (AllStill.cons (fun _ _ _ => rfl) (AllStill.cons (fun _ _ _ => rfl) AllStill.nil)) follows (by kernel_rfl : Try.prog.funcs[82]? = some Try.f82) (by kernel_rfl) (by kernel_rfl) (by kernel_rfl)
noncomputable def spec_NeedsHunks.C : Code := Try.f23.body.getD .skip
def spec_NeedsHunks.P : Par := (.cons (.val (.list .str)) (.cons (.val (.list .str)) .nil))
noncomputable def spec_NeedsHunks.U : SumTab := [(75, [], spec_l1Good.S), (82, [], spec_l3Diff.S)]
noncomputable def spec_NeedsHunks.E : Env := mkEnv TY AR spec_NeedsHunks.U
noncomputable def spec_NeedsHunks.T : Tab := fun k => look k []
def spec_NeedsHunks.R : List (Nat × Ty) := [(0, .int .i64), (0, .bool)]
def spec_NeedsHunks.X : List ResultVar := [.tmp 4, .tmp 5]
noncomputable def spec_NeedsHunks.f (a : List ByteArray) (b : List ByteArray) : Option (Int × Bool) := Fn spec_NeedsHunks.E spec_NeedsHunks.T spec_NeedsHunks.C spec_NeedsHunks.P spec_NeedsHunks.R spec_NeedsHunks.X (a, b)
theorem spec_NeedsHunks.f_eq (a : List ByteArray) (b : List ByteArray) : spec_NeedsHunks.f a b =
  ((spec_l1Good.f a).bind fun y1 =>
  bif (!y1) then (some (0, false)) else
  ((spec_l1Good.f b).bind fun y2 =>
   bif (!y2) then (some (0, false)) else
   ((spec_l3Diff.f a b).bind fun y3 =>
    some ((y3.length : Int), true)))) := by kernel_rfl
noncomputable def spec_NeedsHunks.S : Abs.Sum := ⟨spec_NeedsHunks.P, spec_NeedsHunks.R, fun _ => Fn spec_NeedsHunks.E spec_NeedsHunks.T spec_NeedsHunks.C spec_NeedsHunks.P spec_NeedsHunks.R spec_NeedsHunks.X⟩
theorem spec_NeedsHunks.meets : Meets Try.prog 23 spec_NeedsHunks.S := meets_tab (S := spec_NeedsHunks.U) tabOk_all (AllMeets.cons spec_l1Good.meets (AllMeets.cons spec_l3Diff.meets AllMeets.nil)) (AllStill.cons (fun _ _ _ => rfl) (AllStill.cons (fun _ _ _ => rfl) AllStill.nil)) follows (by kernel_rfl : Try.prog.funcs[23]? = some Try.f23) (by kernel_rfl) (by kernel_rfl) (by kernel_rfl)
noncomputable def impl_common.C : Code := Try.f157.body.getD .skip
def impl_common.P : Par := (.cons (.val (.list .str)) (.cons (.val (.list .str)) .nil))
noncomputable def impl_common.U : SumTab := []
noncomputable def impl_common.E : Env := mkEnv TY AR impl_common.U
def impl_common.D8 : CutD := ⟨[0, 1, 5, 6], (.cons (.val (.list .str)) (.cons (.val (.list .str)) (.cons (.own 9 (.list (.int .i64))) (.cons (.val (.int .i64)) .nil))))⟩
def impl_common.D16 : CutD := ⟨[0, 1, 5, 6, 7], (.cons (.val (.list .str)) (.cons (.val (.list .str)) (.cons (.own 9 (.list (.int .i64))) (.cons (.val (.int .i64)) (.cons (.val (.int .i64)) .nil)))))⟩
noncomputable def impl_common.T : Tab := fun k => look k [(8, impl_common.D8), (16, impl_common.D16)]
def impl_common.R : List (Nat × Ty) := [(9, .list (.list (.int .i64)))]
def impl_common.X : List ResultVar := [.tmp 4]
noncomputable def impl_common.K := fin impl_common.E ⟨impl_common.P, impl_common.R, fun _ _ => none⟩ impl_common.X impl_common.P.len 0
noncomputable def impl_common.l8 (a : List ByteArray) (b : List ByteArray) (out : List (List Int)) (i : Int) : Option ((List (List Int))) := fixP impl_common.E impl_common.T impl_common.C impl_common.K 8 impl_common.D8 (a, b, out, i)
noncomputable def impl_common.l16 (a : List ByteArray) (b : List ByteArray) (out : List (List Int)) (i : Int) (j : Int) : Option ((List (List Int))) := fixP impl_common.E impl_common.T impl_common.C impl_common.K 16 impl_common.D16 (a, b, out, i, j)
noncomputable def impl_common.f (a : List ByteArray) (b : List ByteArray) : Option ((List (List Int))) := Fn impl_common.E impl_common.T impl_common.C impl_common.P impl_common.R impl_common.X (a, b)
theorem impl_common.l8_eq (a : List ByteArray) (b : List ByteArray) (out : List (List Int)) (i : Int) : impl_common.l8 a b out i =
  (bif (decide (i ≥ 0)) then (bif ((decide (0 ≤ (w64 ((b.length : Int) + 1)))) && (decide (((w64 ((b.length : Int) + 1))).toNat ≤ room 8))) then (bif ((decide (0 ≤ i)) && (decide (i < (out.length : Int)))) then (impl_common.l16 a b (out.set (i).toNat (List.replicate ((w64 ((b.length : Int) + 1))).toNat 0)) i (w64 ((b.length : Int) - 1))) else none) else none) else (some out)) :=
  (fixP_eq impl_common.E impl_common.T impl_common.C impl_common.K 8 impl_common.D8 (a, b, out, i)).trans (by kernel_rfl)
theorem impl_common.l16_eq (a : List ByteArray) (b : List ByteArray) (out : List (List Int)) (i : Int) (j : Int) : impl_common.l16 a b out i j =
  (bif (decide (j ≥ 0)) then (bif ((decide (0 ≤ i)) && (decide (i < (a.length : Int)))) then (bif ((decide (0 ≤ j)) && (decide (j < (b.length : Int)))) then (bif ((a.getD (i).toNat em).toList == (b.getD (j).toNat em).toList) then (bif ((decide (0 ≤ i)) && (decide (i < (out.length : Int)))) then (bif ((decide (0 ≤ (w64 (i + 1)))) && (decide ((w64 (i + 1)) < (out.length : Int)))) then (bif ((decide (0 ≤ (w64 (j + 1)))) && (decide ((w64 (j + 1)) < ((out.getD ((w64 (i + 1))).toNat ([] : List Int)).length : Int)))) then (bif ((decide (0 ≤ j)) && (decide (j < ((out.getD (i).toNat ([] : List Int)).length : Int)))) then (impl_common.l16 a b (out.set (i).toNat ((out.getD (i).toNat ([] : List Int)).set (j).toNat (w64 (((out.getD ((w64 (i + 1))).toNat ([] : List Int)).getD ((w64 (j + 1))).toNat 0) + 1)))) i (w64 (j - 1))) else none) else none) else none) else none) else
     (bif ((decide (0 ≤ i)) && (decide (i < (out.length : Int)))) then (bif ((decide (0 ≤ (w64 (i + 1)))) && (decide ((w64 (i + 1)) < (out.length : Int)))) then (bif ((decide (0 ≤ j)) && (decide (j < ((out.getD ((w64 (i + 1))).toNat ([] : List Int)).length : Int)))) then (bif ((decide (0 ≤ i)) && (decide (i < (out.length : Int)))) then (bif ((decide (0 ≤ (w64 (j + 1)))) && (decide ((w64 (j + 1)) < ((out.getD (i).toNat ([] : List Int)).length : Int)))) then (bif ((decide (0 ≤ j)) && (decide (j < ((out.getD (i).toNat ([] : List Int)).length : Int)))) then (impl_common.l16 a b (out.set (i).toNat ((out.getD (i).toNat ([] : List Int)).set (j).toNat (max ((out.getD ((w64 (i + 1))).toNat ([] : List Int)).getD (j).toNat 0) ((out.getD (i).toNat ([] : List Int)).getD ((w64 (j + 1))).toNat 0)))) i (w64 (j - 1))) else none) else none) else none) else none) else none) else none)) else none) else none) else
  (impl_common.l8 a b out (w64 (i - 1)))) :=
  (fixP_eq impl_common.E impl_common.T impl_common.C impl_common.K 16 impl_common.D16 (a, b, out, i, j)).trans (by kernel_rfl)
theorem impl_common.f_eq (a : List ByteArray) (b : List ByteArray) : impl_common.f a b =
  (bif ((decide (0 ≤ (w64 ((a.length : Int) + 1)))) && (decide (((w64 ((a.length : Int) + 1))).toNat ≤ room 24))) then (bif ((decide (0 ≤ (w64 ((b.length : Int) + 1)))) && (decide (((w64 ((b.length : Int) + 1))).toNat ≤ room 8))) then (bif ((decide (0 ≤ (a.length : Int))) && (decide ((a.length : Int) < ((List.replicate ((w64 ((a.length : Int) + 1))).toNat ([] : List Int)).length : Int)))) then (impl_common.l8 a b ((List.replicate ((w64 ((a.length : Int) + 1))).toNat ([] : List Int)).set ((a.length : Int)).toNat (List.replicate ((w64 ((b.length : Int) + 1))).toNat 0)) (w64 ((a.length : Int) - 1))) else none) else none) else none) := by kernel_rfl
noncomputable def impl_common.S : Abs.Sum := ⟨impl_common.P, impl_common.R, fun _ => Fn impl_common.E impl_common.T impl_common.C impl_common.P impl_common.R impl_common.X⟩
theorem impl_common.meets : Meets Try.prog 157 impl_common.S := meets_tab (S := impl_common.U) tabOk_all AllMeets.nil AllStill.nil follows (by kernel_rfl : Try.prog.funcs[157]? = some Try.f157) (by kernel_rfl) (by kernel_rfl) (by kernel_rfl)
noncomputable def impl_commonLines.C : Code := Try.f142.body.getD .skip
def impl_commonLines.P : Par := (.cons (.val (.list .str)) (.cons (.val (.list .str)) .nil))
noncomputable def impl_commonLines.U : SumTab := [(157, [], impl_common.S)]
noncomputable def impl_commonLines.E : Env := mkEnv TY AR impl_commonLines.U
def impl_commonLines.D8 : CutD := ⟨[0, 1, 5, 6, 7, 8, 21, 22], (.cons (.val (.list .str)) (.cons (.val (.list .str)) (.cons (.own 8 (.list (.int .i64))) (.cons (.own 9 (.list (.int .i64))) (.cons (.val (.int .i64)) (.cons (.val (.int .i64)) (.cons (.val (.int .i64)) (.cons (.val (.int .i64)) .nil))))))))⟩
def impl_commonLines.D14 : CutD := ⟨[0, 1, 5, 6, 7, 8, 9, 10, 21, 22], (.cons (.val (.list .str)) (.cons (.val (.list .str)) (.cons (.own 8 (.list (.int .i64))) (.cons (.own 9 (.list (.int .i64))) (.cons (.val (.int .i64)) (.cons (.val (.int .i64)) (.cons (.val (.int .i64)) (.cons (.val (.int .i64)) (.cons (.val (.int .i64)) (.cons (.val (.int .i64)) .nil))))))))))⟩
def impl_commonLines.D19 : CutD := ⟨[0, 1, 5, 6, 7, 8, 9, 10, 21, 22], (.cons (.val (.list .str)) (.cons (.val (.list .str)) (.cons (.own 8 (.list (.int .i64))) (.cons (.own 9 (.list (.int .i64))) (.cons (.val (.int .i64)) (.cons (.val (.int .i64)) (.cons (.val (.int .i64)) (.cons (.val (.int .i64)) (.cons (.val (.int .i64)) (.cons (.val (.int .i64)) .nil))))))))))⟩
noncomputable def impl_commonLines.T : Tab := fun k => look k [(8, impl_commonLines.D8), (14, impl_commonLines.D14), (19, impl_commonLines.D19)]
def impl_commonLines.R : List (Nat × Ty) := [(9, .list (.list (.int .i64)))]
def impl_commonLines.X : List ResultVar := [.tmp 4]
noncomputable def impl_commonLines.K := fin impl_commonLines.E ⟨impl_commonLines.P, impl_commonLines.R, fun _ _ => none⟩ impl_commonLines.X impl_commonLines.P.len 0
noncomputable def impl_commonLines.l8 (a : List ByteArray) (b : List ByteArray) (table : List (List Int)) (out : List (List Int)) (j : Int) (left : Int) (t21 : Int) (t22 : Int) : Option ((List (List Int))) := fixP impl_commonLines.E impl_commonLines.T impl_commonLines.C impl_commonLines.K 8 impl_commonLines.D8 (a, b, table, out, j, left, t21, t22)
noncomputable def impl_commonLines.l14 (a : List ByteArray) (b : List ByteArray) (table : List (List Int)) (out : List (List Int)) (j : Int) (left : Int) (i : Int) (k : Int) (t21 : Int) (t22 : Int) : Option ((List (List Int))) := fixP impl_commonLines.E impl_commonLines.T impl_commonLines.C impl_commonLines.K 14 impl_commonLines.D14 (a, b, table, out, j, left, i, k, t21, t22)
noncomputable def impl_commonLines.l19 (a : List ByteArray) (b : List ByteArray) (table : List (List Int)) (out : List (List Int)) (j : Int) (left : Int) (i : Int) (k : Int) (t21 : Int) (t22 : Int) : Option ((List (List Int))) := fixP impl_commonLines.E impl_commonLines.T impl_commonLines.C impl_commonLines.K 19 impl_commonLines.D19 (a, b, table, out, j, left, i, k, t21, t22)
noncomputable def impl_commonLines.f (a : List ByteArray) (b : List ByteArray) : Option ((List (List Int))) := Fn impl_commonLines.E impl_commonLines.T impl_commonLines.C impl_commonLines.P impl_commonLines.R impl_commonLines.X (a, b)
theorem impl_commonLines.l8_eq (a : List ByteArray) (b : List ByteArray) (table : List (List Int)) (out : List (List Int)) (j : Int) (left : Int) (t21 : Int) (t22 : Int) : impl_commonLines.l8 a b table out j left t21 t22 =
  (bif (decide (t22 < t21)) then (impl_commonLines.l14 a b table out j left t22 j t21 t22) else (some out)) :=
  (fixP_eq impl_commonLines.E impl_commonLines.T impl_commonLines.C impl_commonLines.K 8 impl_commonLines.D8 (a, b, table, out, j, left, t21, t22)).trans (by kernel_rfl)
theorem impl_commonLines.l14_eq (a : List ByteArray) (b : List ByteArray) (table : List (List Int)) (out : List (List Int)) (j : Int) (left : Int) (i : Int) (k : Int) (t21 : Int) (t22 : Int) : impl_commonLines.l14 a b table out j left i k t21 t22 =
  (bif (decide (k < (b.length : Int))) then (bif (decide (left > 0)) then (impl_commonLines.l19 a b table out j left i k t21 t22) else
   (impl_commonLines.l8 a b table out j left t21 (w64 (t22 + 1)))) else
  (impl_commonLines.l8 a b table out j left t21 (w64 (t22 + 1)))) :=
  (fixP_eq impl_commonLines.E impl_commonLines.T impl_commonLines.C impl_commonLines.K 14 impl_commonLines.D14 (a, b, table, out, j, left, i, k, t21, t22)).trans (by kernel_rfl)
theorem impl_commonLines.l19_eq (a : List ByteArray) (b : List ByteArray) (table : List (List Int)) (out : List (List Int)) (j : Int) (left : Int) (i : Int) (k : Int) (t21 : Int) (t22 : Int) : impl_commonLines.l19 a b table out j left i k t21 t22 =
  (bif ((decide (0 ≤ i)) && (decide (i < (a.length : Int)))) then (bif ((decide (0 ≤ k)) && (decide (k < (b.length : Int)))) then (bif ((a.getD (i).toNat em).toList == (b.getD (k).toNat em).toList) then (bif ((decide (0 ≤ (w64 (i + 1)))) && (decide ((w64 (i + 1)) < (table.length : Int)))) then (bif ((decide (0 ≤ (w64 (k + 1)))) && (decide ((w64 (k + 1)) < ((table.getD ((w64 (i + 1))).toNat ([] : List Int)).length : Int)))) then (bif (decide (((table.getD ((w64 (i + 1))).toNat ([] : List Int)).getD ((w64 (k + 1))).toNat 0) = (w64 (left - 1)))) then (bif (decide ((out.length + [[i, k]].length) ≤ room 24)) then (impl_commonLines.l8 a b table (out ++ [[i, k]]) (w64 (k + 1)) (w64 (left - 1)) t21 (w64 (t22 + 1))) else none) else
       (impl_commonLines.l14 a b table out j left i (w64 (k + 1)) t21 t22)) else none) else none) else
    (impl_commonLines.l14 a b table out j left i (w64 (k + 1)) t21 t22)) else none) else none) :=
  (fixP_eq impl_commonLines.E impl_commonLines.T impl_commonLines.C impl_commonLines.K 19 impl_commonLines.D19 (a, b, table, out, j, left, i, k, t21, t22)).trans (by kernel_rfl)
theorem impl_commonLines.f_eq (a : List ByteArray) (b : List ByteArray) : impl_commonLines.f a b =
  ((impl_common.f a b).bind fun y1 =>
  bif (decide (0 < (y1.length : Int))) then (bif (decide (0 < ((y1.getD 0 ([] : List Int)).length : Int))) then (impl_commonLines.l8 a b y1 ([] : List (List Int)) 0 ((y1.getD 0 ([] : List Int)).getD 0 0) (a.length : Int) 0) else none) else none) := by kernel_rfl
noncomputable def impl_commonLines.S : Abs.Sum := ⟨impl_commonLines.P, impl_commonLines.R, fun _ => Fn impl_commonLines.E impl_commonLines.T impl_commonLines.C impl_commonLines.P impl_commonLines.R impl_commonLines.X⟩
theorem impl_commonLines.meets : Meets Try.prog 142 impl_commonLines.S := meets_tab (S := impl_commonLines.U) tabOk_all (AllMeets.cons impl_common.meets AllMeets.nil) (AllStill.cons (fun _ _ _ => rfl) AllStill.nil) follows (by kernel_rfl : Try.prog.funcs[142]? = some Try.f142) (by kernel_rfl) (by kernel_rfl) (by kernel_rfl)
noncomputable def impl_between.C : Code := Try.f141.body.getD .skip
def impl_between.P : Par := (.cons (.val (.list .str)) (.cons (.val (.list .str)) (.cons (.val (.list (.list (.int .i64)))) .nil)))
noncomputable def impl_between.U : SumTab := [(171, [], slices_Clone_LLint_Lint.S), (108, [], slices_Clone_Lstring_string.S)]
noncomputable def impl_between.E : Env := mkEnv TY AR impl_between.U
def impl_between.D6 : CutD := ⟨[1, 7, 8, 9, 21, 22, 23], (.cons (.val (.list .str)) (.cons (.own 9 (.pair (.int .i64) (.pair (.int .i64) (.one (.list .str))))) (.cons (.val (.int .i64)) (.cons (.val (.int .i64)) (.cons (.own 0 (.list (.int .i64))) (.cons (.val (.int .i64)) (.cons (.val (.int .i64)) .nil)))))))⟩
def impl_between.D15 : CutD := ⟨[1, 7, 11, 21, 22, 23], (.cons (.val (.list .str)) (.cons (.own 9 (.pair (.int .i64) (.pair (.int .i64) (.one (.list .str))))) (.cons (.val (.list (.int .i64))) (.cons (.own 0 (.list (.int .i64))) (.cons (.val (.int .i64)) (.cons (.val (.int .i64)) .nil))))))⟩
noncomputable def impl_between.T : Tab := fun k => look k [(6, impl_between.D6), (15, impl_between.D15)]
def impl_between.R : List (Nat × Ty) := [(9, .list (.pair (.int .i64) (.pair (.int .i64) (.one (.list .str)))))]
def impl_between.X : List ResultVar := [.tmp 6]
noncomputable def impl_between.K := fin impl_between.E ⟨impl_between.P, impl_between.R, fun _ _ => none⟩ impl_between.X impl_between.P.len 0
noncomputable def impl_between.l6 (b : List ByteArray) (out : List (Int × Int × List ByteArray)) (i : Int) (j : Int) (t21 : List (List Int)) (t22 : Int) (t23 : Int) : Option ((List (Int × Int × List ByteArray))) := fixP impl_between.E impl_between.T impl_between.C impl_between.K 6 impl_between.D6 (b, out, i, j, t21, t22, t23)
noncomputable def impl_between.l15 (b : List ByteArray) (out : List (Int × Int × List ByteArray)) (p : List Int) (t21 : List (List Int)) (t22 : Int) (t23 : Int) : Option ((List (Int × Int × List ByteArray))) := fixP impl_between.E impl_between.T impl_between.C impl_between.K 15 impl_between.D15 (b, out, p, t21, t22, t23)
noncomputable def impl_between.f (a : List ByteArray) (b : List ByteArray) (pairs : List (List Int)) : Option ((List (Int × Int × List ByteArray))) := Fn impl_between.E impl_between.T impl_between.C impl_between.P impl_between.R impl_between.X (a, b, pairs)
theorem impl_between.l6_eq (b : List ByteArray) (out : List (Int × Int × List ByteArray)) (i : Int) (j : Int) (t21 : List (List Int)) (t22 : Int) (t23 : Int) : impl_between.l6 b out i j t21 t22 t23 =
  (bif (decide (t23 < t22)) then (bif ((decide (0 ≤ t23)) && (decide (t23 < (t21.length : Int)))) then (bif (decide (0 < ((t21.getD (t23).toNat ([] : List Int)).length : Int))) then (bif (decide (((t21.getD (t23).toNat ([] : List Int)).getD 0 0) > i)) then (bif (decide (0 < ((t21.getD (t23).toNat ([] : List Int)).length : Int))) then (bif (decide (1 < ((t21.getD (t23).toNat ([] : List Int)).length : Int))) then (bif ((decide (0 ≤ j)) && ((decide (j ≤ ((t21.getD (t23).toNat ([] : List Int)).getD 1 0))) && (decide (((t21.getD (t23).toNat ([] : List Int)).getD 1 0) ≤ (b.length : Int))))) then ((slices_Clone_Lstring_string.f ((b.take (((t21.getD (t23).toNat ([] : List Int)).getD 1 0)).toNat).drop (j).toNat)).bind fun y1 =>
         bif (decide ((out.length + [(i, (w64 (((t21.getD (t23).toNat ([] : List Int)).getD 0 0) - i)), y1)].length) ≤ room 40)) then (impl_between.l15 b (out ++ [(i, (w64 (((t21.getD (t23).toNat ([] : List Int)).getD 0 0) - i)), y1)]) (t21.getD (t23).toNat ([] : List Int)) t21 t22 t23) else none) else none) else none) else none) else
     (bif (decide (1 < ((t21.getD (t23).toNat ([] : List Int)).length : Int))) then (bif (decide (((t21.getD (t23).toNat ([] : List Int)).getD 1 0) > j)) then (bif (decide (0 < ((t21.getD (t23).toNat ([] : List Int)).length : Int))) then (bif (decide (1 < ((t21.getD (t23).toNat ([] : List Int)).length : Int))) then (bif ((decide (0 ≤ j)) && ((decide (j ≤ ((t21.getD (t23).toNat ([] : List Int)).getD 1 0))) && (decide (((t21.getD (t23).toNat ([] : List Int)).getD 1 0) ≤ (b.length : Int))))) then ((slices_Clone_Lstring_string.f ((b.take (((t21.getD (t23).toNat ([] : List Int)).getD 1 0)).toNat).drop (j).toNat)).bind fun y1 =>
           bif (decide ((out.length + [(i, (w64 (((t21.getD (t23).toNat ([] : List Int)).getD 0 0) - i)), y1)].length) ≤ room 40)) then (impl_between.l15 b (out ++ [(i, (w64 (((t21.getD (t23).toNat ([] : List Int)).getD 0 0) - i)), y1)]) (t21.getD (t23).toNat ([] : List Int)) t21 t22 t23) else none) else none) else none) else none) else
       (impl_between.l15 b out (t21.getD (t23).toNat ([] : List Int)) t21 t22 t23)) else none)) else none) else none) else (some out)) :=
  (fixP_eq impl_between.E impl_between.T impl_between.C impl_between.K 6 impl_between.D6 (b, out, i, j, t21, t22, t23)).trans (by kernel_rfl)
theorem impl_between.l15_eq (b : List ByteArray) (out : List (Int × Int × List ByteArray)) (p : List Int) (t21 : List (List Int)) (t22 : Int) (t23 : Int) : impl_between.l15 b out p t21 t22 t23 =
  (bif (decide (0 < (p.length : Int))) then (bif (decide (1 < (p.length : Int))) then (impl_between.l6 b out (w64 ((p.getD 0 0) + 1)) (w64 ((p.getD 1 0) + 1)) t21 t22 (w64 (t23 + 1))) else none) else none) :=
  (fixP_eq impl_between.E impl_between.T impl_between.C impl_between.K 15 impl_between.D15 (b, out, p, t21, t22, t23)).trans (by kernel_rfl)
theorem impl_between.f_eq (a : List ByteArray) (b : List ByteArray) (pairs : List (List Int)) : impl_between.f a b pairs =
  ((slices_Clone_LLint_Lint.f pairs).bind fun y1 =>
  bif (decide ((y1.length + [[(a.length : Int), (b.length : Int)]].length) ≤ room 24)) then (impl_between.l6 b ([] : List (Int × Int × List ByteArray)) 0 0 (y1 ++ [[(a.length : Int), (b.length : Int)]]) ((y1 ++ [[(a.length : Int), (b.length : Int)]]).length : Int) 0) else none) := by kernel_rfl
noncomputable def impl_between.S : Abs.Sum := ⟨impl_between.P, impl_between.R, fun _ => Fn impl_between.E impl_between.T impl_between.C impl_between.P impl_between.R impl_between.X⟩
theorem impl_between.meets : Meets Try.prog 141 impl_between.S := meets_tab (S := impl_between.U) tabOk_all (AllMeets.cons slices_Clone_LLint_Lint.meets (AllMeets.cons slices_Clone_Lstring_string.meets AllMeets.nil)) (AllStill.cons (fun _ _ _ => rfl) (AllStill.cons (fun _ _ _ => rfl) AllStill.nil)) follows (by kernel_rfl : Try.prog.funcs[141]? = some Try.f141) (by kernel_rfl) (by kernel_rfl) (by kernel_rfl)
noncomputable def impl_diff.C : Code := Try.f83.body.getD .skip
def impl_diff.P : Par := (.cons (.val (.list .str)) (.cons (.val (.list .str)) .nil))
noncomputable def impl_diff.U : SumTab := [(142, [], impl_commonLines.S), (141, [], impl_between.S)]
noncomputable def impl_diff.E : Env := mkEnv TY AR impl_diff.U
noncomputable def impl_diff.T : Tab := fun k => look k []
def impl_diff.R : List (Nat × Ty) := [(9, .list (.pair (.int .i64) (.pair (.int .i64) (.one (.list .str)))))]
def impl_diff.X : List ResultVar := [.tmp 4]
noncomputable def impl_diff.f (a : List ByteArray) (b : List ByteArray) : Option ((List (Int × Int × List ByteArray))) := Fn impl_diff.E impl_diff.T impl_diff.C impl_diff.P impl_diff.R impl_diff.X (a, b)
theorem impl_diff.f_eq (a : List ByteArray) (b : List ByteArray) : impl_diff.f a b =
  ((impl_commonLines.f a b).bind fun y1 =>
  (impl_between.f a b y1).bind fun y2 =>
  some y2) := by kernel_rfl
noncomputable def impl_diff.S : Abs.Sum := ⟨impl_diff.P, impl_diff.R, fun _ => Fn impl_diff.E impl_diff.T impl_diff.C impl_diff.P impl_diff.R impl_diff.X⟩
theorem impl_diff.meets : Meets Try.prog 83 impl_diff.S := meets_tab (S := impl_diff.U) tabOk_all (AllMeets.cons impl_commonLines.meets (AllMeets.cons impl_between.meets AllMeets.nil)) (AllStill.cons (fun _ _ _ => rfl) (AllStill.cons (fun _ _ _ => rfl) AllStill.nil)) follows (by kernel_rfl : Try.prog.funcs[83]? = some Try.f83) (by kernel_rfl) (by kernel_rfl) (by kernel_rfl)
noncomputable def impl_NeedsHunks.C : Code := Try.f24.body.getD .skip
def impl_NeedsHunks.P : Par := (.cons (.val (.list .str)) (.cons (.val (.list .str)) .nil))
noncomputable def impl_NeedsHunks.U : SumTab := [(78, [], impl_goodLines.S), (83, [], impl_diff.S)]
noncomputable def impl_NeedsHunks.E : Env := mkEnv TY AR impl_NeedsHunks.U
noncomputable def impl_NeedsHunks.T : Tab := fun k => look k []
def impl_NeedsHunks.R : List (Nat × Ty) := [(0, .int .i64), (0, .bool)]
def impl_NeedsHunks.X : List ResultVar := [.tmp 4, .tmp 5]
noncomputable def impl_NeedsHunks.f (a : List ByteArray) (b : List ByteArray) : Option (Int × Bool) := Fn impl_NeedsHunks.E impl_NeedsHunks.T impl_NeedsHunks.C impl_NeedsHunks.P impl_NeedsHunks.R impl_NeedsHunks.X (a, b)
theorem impl_NeedsHunks.f_eq (a : List ByteArray) (b : List ByteArray) : impl_NeedsHunks.f a b =
  ((impl_goodLines.f a).bind fun y1 =>
  bif (!y1) then (some (0, false)) else
  ((impl_goodLines.f b).bind fun y2 =>
   bif (!y2) then (some (0, false)) else
   ((impl_diff.f a b).bind fun y3 =>
    some ((y3.length : Int), true)))) := by kernel_rfl
noncomputable def impl_NeedsHunks.S : Abs.Sum := ⟨impl_NeedsHunks.P, impl_NeedsHunks.R, fun _ => Fn impl_NeedsHunks.E impl_NeedsHunks.T impl_NeedsHunks.C impl_NeedsHunks.P impl_NeedsHunks.R impl_NeedsHunks.X⟩
theorem impl_NeedsHunks.meets : Meets Try.prog 24 impl_NeedsHunks.S := meets_tab (S := impl_NeedsHunks.U) tabOk_all (AllMeets.cons impl_goodLines.meets (AllMeets.cons impl_diff.meets AllMeets.nil)) (AllStill.cons (fun _ _ _ => rfl) (AllStill.cons (fun _ _ _ => rfl) AllStill.nil)) follows (by kernel_rfl : Try.prog.funcs[24]? = some Try.f24) (by kernel_rfl) (by kernel_rfl) (by kernel_rfl)
noncomputable def spec_l2Hunks.C : Code := Try.f98.body.getD .skip
def spec_l2Hunks.P : Par := (.cons (.val (.int .i64)) (.cons (.val (.list (.pair (.int .i64) (.pair (.int .i64) (.one (.list .str)))))) .nil))
noncomputable def spec_l2Hunks.U : SumTab := [(76, [], spec_l1Line.S), (94, [], spec_l1In.S)]
noncomputable def spec_l2Hunks.E : Env := mkEnv TY AR spec_l2Hunks.U
def spec_l2Hunks.D4 : CutD := ⟨[0, 1, 9, 10, 11], (.cons (.val (.int .i64)) (.cons (.val (.list (.pair (.int .i64) (.pair (.int .i64) (.one (.list .str)))))) (.cons (.val (.list (.pair (.int .i64) (.pair (.int .i64) (.one (.list .str)))))) (.cons (.val (.int .i64)) (.cons (.val (.int .i64)) .nil)))))⟩
def spec_l2Hunks.D13 : CutD := ⟨[0, 1, 6, 9, 10, 11], (.cons (.val (.int .i64)) (.cons (.val (.list (.pair (.int .i64) (.pair (.int .i64) (.one (.list .str)))))) (.cons (.box 0 (.pair (.int .i64) (.pair (.int .i64) (.one (.list .str))))) (.cons (.val (.list (.pair (.int .i64) (.pair (.int .i64) (.one (.list .str)))))) (.cons (.val (.int .i64)) (.cons (.val (.int .i64)) .nil))))))⟩
def spec_l2Hunks.D14 : CutD := ⟨[0, 1, 9, 10, 11, 77, 78, 79], (.cons (.val (.int .i64)) (.cons (.val (.list (.pair (.int .i64) (.pair (.int .i64) (.one (.list .str)))))) (.cons (.val (.list (.pair (.int .i64) (.pair (.int .i64) (.one (.list .str)))))) (.cons (.val (.int .i64)) (.cons (.val (.int .i64)) (.cons (.val (.list .str)) (.cons (.val (.int .i64)) (.cons (.val (.int .i64)) .nil))))))))⟩
noncomputable def spec_l2Hunks.T : Tab := fun k => look k [(4, spec_l2Hunks.D4), (13, spec_l2Hunks.D13), (14, spec_l2Hunks.D14)]
def spec_l2Hunks.R : List (Nat × Ty) := [(0, .bool)]
def spec_l2Hunks.X : List ResultVar := [.tmp 4]
noncomputable def spec_l2Hunks.K := fin spec_l2Hunks.E ⟨spec_l2Hunks.P, spec_l2Hunks.R, fun _ _ => none⟩ spec_l2Hunks.X spec_l2Hunks.P.len 0
noncomputable def spec_l2Hunks.l4 (many : Int) (h : List (Int × Int × List ByteArray)) (t9 : List (Int × Int × List ByteArray)) (t10 : Int) (t11 : Int) : Option (Bool) := fixP spec_l2Hunks.E spec_l2Hunks.T spec_l2Hunks.C spec_l2Hunks.K 4 spec_l2Hunks.D4 (many, h, t9, t10, t11)
noncomputable def spec_l2Hunks.l13 (many : Int) (h : List (Int × Int × List ByteArray)) (x : Int × Int × List ByteArray) (t9 : List (Int × Int × List ByteArray)) (t10 : Int) (t11 : Int) : Option (Bool) := fixP spec_l2Hunks.E spec_l2Hunks.T spec_l2Hunks.C spec_l2Hunks.K 13 spec_l2Hunks.D13 (many, h, x, t9, t10, t11)
noncomputable def spec_l2Hunks.l14 (many : Int) (h : List (Int × Int × List ByteArray)) (t9 : List (Int × Int × List ByteArray)) (t10 : Int) (t11 : Int) (t77 : List ByteArray) (t78 : Int) (t79 : Int) : Option (Bool) := fixP spec_l2Hunks.E spec_l2Hunks.T spec_l2Hunks.C spec_l2Hunks.K 14 spec_l2Hunks.D14 (many, h, t9, t10, t11, t77, t78, t79)
noncomputable def spec_l2Hunks.f (many : Int) (h : List (Int × Int × List ByteArray)) : Option (Bool) := Fn spec_l2Hunks.E spec_l2Hunks.T spec_l2Hunks.C spec_l2Hunks.P spec_l2Hunks.R spec_l2Hunks.X (many, h)
theorem spec_l2Hunks.l4_eq (many : Int) (h : List (Int × Int × List ByteArray)) (t9 : List (Int × Int × List ByteArray)) (t10 : Int) (t11 : Int) : spec_l2Hunks.l4 many h t9 t10 t11 =
  (bif (decide (t11 < t10)) then (bif ((decide (0 ≤ t11)) && (decide (t11 < (t9.length : Int)))) then (bif (decide ((t9.getD (t11).toNat (0, 0, ([] : List ByteArray))).1 < 0)) then (some false) else
    (bif (decide ((t9.getD (t11).toNat (0, 0, ([] : List ByteArray))).2.1 < 0)) then (some false) else
     (bif (decide ((t9.getD (t11).toNat (0, 0, ([] : List ByteArray))).2.1 > many)) then (some false) else
      (bif (decide ((t9.getD (t11).toNat (0, 0, ([] : List ByteArray))).1 > (w64 (many - (t9.getD (t11).toNat (0, 0, ([] : List ByteArray))).2.1)))) then (some false) else
       (bif (decide ((w64 ((t9.getD (t11).toNat (0, 0, ([] : List ByteArray))).2.1 + ((t9.getD (t11).toNat (0, 0, ([] : List ByteArray))).2.2.length : Int))) = 0)) then (some false) else
        (bif (decide (((t9.getD (t11).toNat (0, 0, ([] : List ByteArray))).2.2.length : Int) > 40)) then (some false) else
         (bif (decide (t11 > 0)) then (bif ((decide (0 ≤ (w64 (t11 - 1)))) && (decide ((w64 (t11 - 1)) < (h.length : Int)))) then (bif ((decide (0 ≤ (w64 (t11 - 1)))) && (decide ((w64 (t11 - 1)) < (h.length : Int)))) then (bif (decide ((t9.getD (t11).toNat (0, 0, ([] : List ByteArray))).1 ≤ (w64 ((h.getD ((w64 (t11 - 1))).toNat (0, 0, ([] : List ByteArray))).1 + (h.getD ((w64 (t11 - 1))).toNat (0, 0, ([] : List ByteArray))).2.1)))) then (some false) else
             (spec_l2Hunks.l13 many h (t9.getD (t11).toNat (0, 0, ([] : List ByteArray))) t9 t10 t11)) else none) else none) else
          (spec_l2Hunks.l13 many h (t9.getD (t11).toNat (0, 0, ([] : List ByteArray))) t9 t10 t11)))))))) else none) else
  (bif (decide ((h.length : Int) ≤ 20)) then ((spec_l1In.f many 0 40).bind fun y1 =>
    some y1) else (some false))) :=
  (fixP_eq spec_l2Hunks.E spec_l2Hunks.T spec_l2Hunks.C spec_l2Hunks.K 4 spec_l2Hunks.D4 (many, h, t9, t10, t11)).trans (by kernel_rfl)
theorem spec_l2Hunks.l13_eq (many : Int) (h : List (Int × Int × List ByteArray)) (x : Int × Int × List ByteArray) (t9 : List (Int × Int × List ByteArray)) (t10 : Int) (t11 : Int) : spec_l2Hunks.l13 many h x t9 t10 t11 =
  (spec_l2Hunks.l14 many h t9 t10 t11 x.2.2 (x.2.2.length : Int) 0) :=
  (fixP_eq spec_l2Hunks.E spec_l2Hunks.T spec_l2Hunks.C spec_l2Hunks.K 13 spec_l2Hunks.D13 (many, h, x, t9, t10, t11)).trans (by kernel_rfl)
theorem spec_l2Hunks.l14_eq (many : Int) (h : List (Int × Int × List ByteArray)) (t9 : List (Int × Int × List ByteArray)) (t10 : Int) (t11 : Int) (t77 : List ByteArray) (t78 : Int) (t79 : Int) : spec_l2Hunks.l14 many h t9 t10 t11 t77 t78 t79 =
  (bif (decide (t79 < t78)) then (bif ((decide (0 ≤ t79)) && (decide (t79 < (t77.length : Int)))) then ((spec_l1Line.f (t77.getD (t79).toNat em)).bind fun y1 =>
    bif (!y1) then (some false) else
    (spec_l2Hunks.l14 many h t9 t10 t11 t77 t78 (w64 (t79 + 1)))) else none) else
  (spec_l2Hunks.l4 many h t9 t10 (w64 (t11 + 1)))) :=
  (fixP_eq spec_l2Hunks.E spec_l2Hunks.T spec_l2Hunks.C spec_l2Hunks.K 14 spec_l2Hunks.D14 (many, h, t9, t10, t11, t77, t78, t79)).trans (by kernel_rfl)
theorem spec_l2Hunks.f_eq (many : Int) (h : List (Int × Int × List ByteArray)) : spec_l2Hunks.f many h =
  (spec_l2Hunks.l4 many h h (h.length : Int) 0) := by kernel_rfl
noncomputable def spec_l2Hunks.S : Abs.Sum := ⟨spec_l2Hunks.P, spec_l2Hunks.R, fun _ => Fn spec_l2Hunks.E spec_l2Hunks.T spec_l2Hunks.C spec_l2Hunks.P spec_l2Hunks.R spec_l2Hunks.X⟩
theorem spec_l2Hunks.meets : Meets Try.prog 98 spec_l2Hunks.S := meets_tab (S := spec_l2Hunks.U) tabOk_all (AllMeets.cons spec_l1Line.meets (AllMeets.cons spec_l1In.meets AllMeets.nil)) (AllStill.cons (fun _ _ _ => rfl) (AllStill.cons (fun _ _ _ => rfl) AllStill.nil)) follows (by kernel_rfl : Try.prog.funcs[98]? = some Try.f98) (by kernel_rfl) (by kernel_rfl) (by kernel_rfl)
noncomputable def spec_DiffHunks.C : Code := Try.f36.body.getD .skip
def spec_DiffHunks.P : Par := (.cons (.val (.list .str)) (.cons (.val (.list .str)) .nil))
noncomputable def spec_DiffHunks.U : SumTab := [(75, [], spec_l1Good.S), (82, [], spec_l3Diff.S), (98, [], spec_l2Hunks.S)]
noncomputable def spec_DiffHunks.E : Env := mkEnv TY AR spec_DiffHunks.U
def spec_DiffHunks.D7 : CutD := ⟨[0, 1], (.cons (.val (.list .str)) (.cons (.val (.list .str)) .nil))⟩
noncomputable def spec_DiffHunks.T : Tab := fun k => look k [(7, spec_DiffHunks.D7)]
def spec_DiffHunks.R : List (Nat × Ty) := [(9, .list (.pair (.int .i64) (.pair (.int .i64) (.one (.list .str))))), (0, .bool)]
def spec_DiffHunks.X : List ResultVar := [.tmp 4, .tmp 5]
noncomputable def spec_DiffHunks.K := fin spec_DiffHunks.E ⟨spec_DiffHunks.P, spec_DiffHunks.R, fun _ _ => none⟩ spec_DiffHunks.X spec_DiffHunks.P.len 0
noncomputable def spec_DiffHunks.l7 (a : List ByteArray) (b : List ByteArray) : Option ((List (Int × Int × List ByteArray)) × Bool) := fixP spec_DiffHunks.E spec_DiffHunks.T spec_DiffHunks.C spec_DiffHunks.K 7 spec_DiffHunks.D7 (a, b)
noncomputable def spec_DiffHunks.f (a : List ByteArray) (b : List ByteArray) : Option ((List (Int × Int × List ByteArray)) × Bool) := Fn spec_DiffHunks.E spec_DiffHunks.T spec_DiffHunks.C spec_DiffHunks.P spec_DiffHunks.R spec_DiffHunks.X (a, b)
theorem spec_DiffHunks.l7_eq (a : List ByteArray) (b : List ByteArray) : spec_DiffHunks.l7 a b =
  ((spec_l3Diff.f a b).bind fun y1 =>
  some (y1, true)) :=
  (fixP_eq spec_DiffHunks.E spec_DiffHunks.T spec_DiffHunks.C spec_DiffHunks.K 7 spec_DiffHunks.D7 (a, b)).trans (by kernel_rfl)
theorem spec_DiffHunks.f_eq (a : List ByteArray) (b : List ByteArray) : spec_DiffHunks.f a b =
  ((spec_l1Good.f a).bind fun y1 =>
  bif (!y1) then (some (([] : List (Int × Int × List ByteArray)), false)) else
  ((spec_l1Good.f b).bind fun y2 =>
   bif (!y2) then (some (([] : List (Int × Int × List ByteArray)), false)) else
   ((spec_l3Diff.f a b).bind fun y3 =>
    (spec_l2Hunks.f (a.length : Int) y3).bind fun y4 =>
    bif (!y4) then (some (([] : List (Int × Int × List ByteArray)), false)) else
    (spec_DiffHunks.l7 a b)))) := by kernel_rfl
noncomputable def spec_DiffHunks.S : Abs.Sum := ⟨spec_DiffHunks.P, spec_DiffHunks.R, fun _ => Fn spec_DiffHunks.E spec_DiffHunks.T spec_DiffHunks.C spec_DiffHunks.P spec_DiffHunks.R spec_DiffHunks.X⟩
theorem spec_DiffHunks.meets : Meets Try.prog 36 spec_DiffHunks.S := meets_tab (S := spec_DiffHunks.U) tabOk_all (AllMeets.cons spec_l1Good.meets (AllMeets.cons spec_l3Diff.meets (AllMeets.cons spec_l2Hunks.meets AllMeets.nil))) (AllStill.cons (fun _ _ _ => rfl) (AllStill.cons (fun _ _ _ => rfl) (AllStill.cons (fun _ _ _ => rfl) AllStill.nil))) follows (by kernel_rfl : Try.prog.funcs[36]? = some Try.f36) (by kernel_rfl) (by kernel_rfl) (by kernel_rfl)
noncomputable def impl_goodHunks.C : Code := Try.f99.body.getD .skip
def impl_goodHunks.P : Par := (.cons (.val (.int .i64)) (.cons (.val (.list (.pair (.int .i64) (.pair (.int .i64) (.one (.list .str)))))) .nil))
noncomputable def impl_goodHunks.U : SumTab := [(104, [], impl_in.S), (79, [], impl_areLines.S)]
noncomputable def impl_goodHunks.E : Env := mkEnv TY AR impl_goodHunks.U
def impl_goodHunks.D7 : CutD := ⟨[0, 1], (.cons (.val (.int .i64)) (.cons (.val (.list (.pair (.int .i64) (.pair (.int .i64) (.one (.list .str)))))) .nil))⟩
def impl_goodHunks.D8 : CutD := ⟨[0, 1, 15, 16, 17], (.cons (.val (.int .i64)) (.cons (.val (.list (.pair (.int .i64) (.pair (.int .i64) (.one (.list .str)))))) (.cons (.val (.list (.pair (.int .i64) (.pair (.int .i64) (.one (.list .str)))))) (.cons (.val (.int .i64)) (.cons (.val (.int .i64)) .nil)))))⟩
def impl_goodHunks.D17 : CutD := ⟨[0, 1, 5, 6, 15, 16, 17], (.cons (.val (.int .i64)) (.cons (.val (.list (.pair (.int .i64) (.pair (.int .i64) (.one (.list .str)))))) (.cons (.val (.int .i64)) (.cons (.box 0 (.pair (.int .i64) (.pair (.int .i64) (.one (.list .str))))) (.cons (.val (.list (.pair (.int .i64) (.pair (.int .i64) (.one (.list .str)))))) (.cons (.val (.int .i64)) (.cons (.val (.int .i64)) .nil)))))))⟩
noncomputable def impl_goodHunks.T : Tab := fun k => look k [(7, impl_goodHunks.D7), (8, impl_goodHunks.D8), (17, impl_goodHunks.D17)]
def impl_goodHunks.R : List (Nat × Ty) := [(0, .bool)]
def impl_goodHunks.X : List ResultVar := [.tmp 4]
noncomputable def impl_goodHunks.K := fin impl_goodHunks.E ⟨impl_goodHunks.P, impl_goodHunks.R, fun _ _ => none⟩ impl_goodHunks.X impl_goodHunks.P.len 0
noncomputable def impl_goodHunks.l7 (many : Int) (h : List (Int × Int × List ByteArray)) : Option (Bool) := fixP impl_goodHunks.E impl_goodHunks.T impl_goodHunks.C impl_goodHunks.K 7 impl_goodHunks.D7 (many, h)
noncomputable def impl_goodHunks.l8 (many : Int) (h : List (Int × Int × List ByteArray)) (t15 : List (Int × Int × List ByteArray)) (t16 : Int) (t17 : Int) : Option (Bool) := fixP impl_goodHunks.E impl_goodHunks.T impl_goodHunks.C impl_goodHunks.K 8 impl_goodHunks.D8 (many, h, t15, t16, t17)
noncomputable def impl_goodHunks.l17 (many : Int) (h : List (Int × Int × List ByteArray)) (i : Int) (x : Int × Int × List ByteArray) (t15 : List (Int × Int × List ByteArray)) (t16 : Int) (t17 : Int) : Option (Bool) := fixP impl_goodHunks.E impl_goodHunks.T impl_goodHunks.C impl_goodHunks.K 17 impl_goodHunks.D17 (many, h, i, x, t15, t16, t17)
noncomputable def impl_goodHunks.f (many : Int) (h : List (Int × Int × List ByteArray)) : Option (Bool) := Fn impl_goodHunks.E impl_goodHunks.T impl_goodHunks.C impl_goodHunks.P impl_goodHunks.R impl_goodHunks.X (many, h)
theorem impl_goodHunks.l7_eq (many : Int) (h : List (Int × Int × List ByteArray)) : impl_goodHunks.l7 many h =
  (impl_goodHunks.l8 many h h (h.length : Int) 0) :=
  (fixP_eq impl_goodHunks.E impl_goodHunks.T impl_goodHunks.C impl_goodHunks.K 7 impl_goodHunks.D7 (many, h)).trans (by kernel_rfl)
theorem impl_goodHunks.l8_eq (many : Int) (h : List (Int × Int × List ByteArray)) (t15 : List (Int × Int × List ByteArray)) (t16 : Int) (t17 : Int) : impl_goodHunks.l8 many h t15 t16 t17 =
  (bif (decide (t17 < t16)) then (bif ((decide (0 ≤ t17)) && (decide (t17 < (t15.length : Int)))) then ((impl_in.f (t15.getD (t17).toNat (0, 0, ([] : List ByteArray))).1 0 many).bind fun y1 =>
    bif (!y1) then (some false) else
    ((impl_in.f (t15.getD (t17).toNat (0, 0, ([] : List ByteArray))).2.1 0 (w64 (many - (t15.getD (t17).toNat (0, 0, ([] : List ByteArray))).1))).bind fun y2 =>
     bif (!y2) then (some false) else
     ((impl_areLines.f (t15.getD (t17).toNat (0, 0, ([] : List ByteArray))).2.2).bind fun y3 =>
      bif (!y3) then (some false) else
      (bif (decide ((t15.getD (t17).toNat (0, 0, ([] : List ByteArray))).2.1 = 0)) then (bif (decide (((t15.getD (t17).toNat (0, 0, ([] : List ByteArray))).2.2.length : Int) = 0)) then (some false) else
        (impl_goodHunks.l17 many h t17 (t15.getD (t17).toNat (0, 0, ([] : List ByteArray))) t15 t16 t17)) else
       (impl_goodHunks.l17 many h t17 (t15.getD (t17).toNat (0, 0, ([] : List ByteArray))) t15 t16 t17))))) else none) else (some true)) :=
  (fixP_eq impl_goodHunks.E impl_goodHunks.T impl_goodHunks.C impl_goodHunks.K 8 impl_goodHunks.D8 (many, h, t15, t16, t17)).trans (by kernel_rfl)
theorem impl_goodHunks.l17_eq (many : Int) (h : List (Int × Int × List ByteArray)) (i : Int) (x : Int × Int × List ByteArray) (t15 : List (Int × Int × List ByteArray)) (t16 : Int) (t17 : Int) : impl_goodHunks.l17 many h i x t15 t16 t17 =
  (bif (decide (i > 0)) then (bif ((decide (0 ≤ (w64 (i - 1)))) && (decide ((w64 (i - 1)) < (h.length : Int)))) then (bif ((decide (0 ≤ (w64 (i - 1)))) && (decide ((w64 (i - 1)) < (h.length : Int)))) then (bif (decide (x.1 ≤ (w64 ((h.getD ((w64 (i - 1))).toNat (0, 0, ([] : List ByteArray))).1 + (h.getD ((w64 (i - 1))).toNat (0, 0, ([] : List ByteArray))).2.1)))) then (some false) else
     (impl_goodHunks.l8 many h t15 t16 (w64 (t17 + 1)))) else none) else none) else
  (impl_goodHunks.l8 many h t15 t16 (w64 (t17 + 1)))) :=
  (fixP_eq impl_goodHunks.E impl_goodHunks.T impl_goodHunks.C impl_goodHunks.K 17 impl_goodHunks.D17 (many, h, i, x, t15, t16, t17)).trans (by kernel_rfl)
theorem impl_goodHunks.f_eq (many : Int) (h : List (Int × Int × List ByteArray)) : impl_goodHunks.f many h =
  ((impl_in.f many 0 40).bind fun y1 =>
  bif (!y1) then (some false) else
  (bif (decide ((h.length : Int) > 20)) then (some false) else
   (impl_goodHunks.l7 many h))) := by kernel_rfl
noncomputable def impl_goodHunks.S : Abs.Sum := ⟨impl_goodHunks.P, impl_goodHunks.R, fun _ => Fn impl_goodHunks.E impl_goodHunks.T impl_goodHunks.C impl_goodHunks.P impl_goodHunks.R impl_goodHunks.X⟩
theorem impl_goodHunks.meets : Meets Try.prog 99 impl_goodHunks.S := meets_tab (S := impl_goodHunks.U) tabOk_all (AllMeets.cons impl_in.meets (AllMeets.cons impl_areLines.meets AllMeets.nil)) (AllStill.cons (fun _ _ _ => rfl) (AllStill.cons (fun _ _ _ => rfl) AllStill.nil)) follows (by kernel_rfl : Try.prog.funcs[99]? = some Try.f99) (by kernel_rfl) (by kernel_rfl) (by kernel_rfl)
noncomputable def impl_DiffHunks.C : Code := Try.f37.body.getD .skip
def impl_DiffHunks.P : Par := (.cons (.val (.list .str)) (.cons (.val (.list .str)) .nil))
noncomputable def impl_DiffHunks.U : SumTab := [(78, [], impl_goodLines.S), (83, [], impl_diff.S), (99, [], impl_goodHunks.S)]
noncomputable def impl_DiffHunks.E : Env := mkEnv TY AR impl_DiffHunks.U
def impl_DiffHunks.D7 : CutD := ⟨[0, 1], (.cons (.val (.list .str)) (.cons (.val (.list .str)) .nil))⟩
noncomputable def impl_DiffHunks.T : Tab := fun k => look k [(7, impl_DiffHunks.D7)]
def impl_DiffHunks.R : List (Nat × Ty) := [(9, .list (.pair (.int .i64) (.pair (.int .i64) (.one (.list .str))))), (0, .bool)]
def impl_DiffHunks.X : List ResultVar := [.tmp 4, .tmp 5]
noncomputable def impl_DiffHunks.K := fin impl_DiffHunks.E ⟨impl_DiffHunks.P, impl_DiffHunks.R, fun _ _ => none⟩ impl_DiffHunks.X impl_DiffHunks.P.len 0
noncomputable def impl_DiffHunks.l7 (a : List ByteArray) (b : List ByteArray) : Option ((List (Int × Int × List ByteArray)) × Bool) := fixP impl_DiffHunks.E impl_DiffHunks.T impl_DiffHunks.C impl_DiffHunks.K 7 impl_DiffHunks.D7 (a, b)
noncomputable def impl_DiffHunks.f (a : List ByteArray) (b : List ByteArray) : Option ((List (Int × Int × List ByteArray)) × Bool) := Fn impl_DiffHunks.E impl_DiffHunks.T impl_DiffHunks.C impl_DiffHunks.P impl_DiffHunks.R impl_DiffHunks.X (a, b)
theorem impl_DiffHunks.l7_eq (a : List ByteArray) (b : List ByteArray) : impl_DiffHunks.l7 a b =
  ((impl_diff.f a b).bind fun y1 =>
  (impl_goodHunks.f (a.length : Int) y1).bind fun y2 =>
  bif (!y2) then (some (([] : List (Int × Int × List ByteArray)), false)) else (some (y1, true))) :=
  (fixP_eq impl_DiffHunks.E impl_DiffHunks.T impl_DiffHunks.C impl_DiffHunks.K 7 impl_DiffHunks.D7 (a, b)).trans (by kernel_rfl)
theorem impl_DiffHunks.f_eq (a : List ByteArray) (b : List ByteArray) : impl_DiffHunks.f a b =
  ((impl_goodLines.f a).bind fun y1 =>
  bif (!y1) then (some (([] : List (Int × Int × List ByteArray)), false)) else
  ((impl_goodLines.f b).bind fun y2 =>
   bif (!y2) then (some (([] : List (Int × Int × List ByteArray)), false)) else
   (impl_DiffHunks.l7 a b))) := by kernel_rfl
noncomputable def impl_DiffHunks.S : Abs.Sum := ⟨impl_DiffHunks.P, impl_DiffHunks.R, fun _ => Fn impl_DiffHunks.E impl_DiffHunks.T impl_DiffHunks.C impl_DiffHunks.P impl_DiffHunks.R impl_DiffHunks.X⟩
theorem impl_DiffHunks.meets : Meets Try.prog 37 impl_DiffHunks.S := meets_tab (S := impl_DiffHunks.U) tabOk_all (AllMeets.cons impl_goodLines.meets (AllMeets.cons impl_diff.meets (AllMeets.cons impl_goodHunks.meets AllMeets.nil))) (AllStill.cons (fun _ _ _ => rfl) (AllStill.cons (fun _ _ _ => rfl) (AllStill.cons (fun _ _ _ => rfl) AllStill.nil))) follows (by kernel_rfl : Try.prog.funcs[37]? = some Try.f37) (by kernel_rfl) (by kernel_rfl) (by kernel_rfl)
noncomputable def laws_big.C : Code := Try.f57.body.getD .skip
def laws_big.P : Par := (.cons (.val (.list (.int .u8))) (.cons (.val (.list (.int .u8))) .nil))
noncomputable def laws_big.U : SumTab := []
noncomputable def laws_big.E : Env := mkEnv TY AR laws_big.U
noncomputable def laws_big.T : Tab := fun k => look k []
def laws_big.R : List (Nat × Ty) := [(0, .bool)]
def laws_big.X : List ResultVar := [.tmp 4]
noncomputable def laws_big.f (code : List Int) (more : List Int) : Option (Bool) := Fn laws_big.E laws_big.T laws_big.C laws_big.P laws_big.R laws_big.X (code, more)
theorem laws_big.f_eq (code : List Int) (more : List Int) : laws_big.f code more =
  (bif (decide ((code.length : Int) > 1048576)) then (some true) else (some (decide ((more.length : Int) > (w64 (1048576 - (code.length : Int))))))) := by kernel_rfl
noncomputable def laws_big.S : Abs.Sum := ⟨laws_big.P, laws_big.R, fun _ => Fn laws_big.E laws_big.T laws_big.C laws_big.P laws_big.R laws_big.X⟩
theorem laws_big.meets : Meets Try.prog 57 laws_big.S := meets_tab (S := laws_big.U) tabOk_all AllMeets.nil AllStill.nil follows (by kernel_rfl : Try.prog.funcs[57]? = some Try.f57) (by kernel_rfl) (by kernel_rfl) (by kernel_rfl)
noncomputable def spec_l1Cur_next.C : Code := Try.f156.body.getD .skip
def spec_l1Cur_next.P : Par := (.cons (.box 0 (.pair (.list (.int .u8)) (.pair (.int .i64) (.one (.int .u64))))) .nil)
noncomputable def spec_l1Cur_next.U : SumTab := []
noncomputable def spec_l1Cur_next.E : Env := mkEnv TY AR spec_l1Cur_next.U
def spec_l1Cur_next.D9 : CutD := ⟨[0, 3], (.cons (.box 0 (.pair (.list (.int .u8)) (.pair (.int .i64) (.one (.int .u64))))) (.cons (.val (.int .i64)) .nil))⟩
noncomputable def spec_l1Cur_next.T : Tab := fun k => look k [(9, spec_l1Cur_next.D9)]
def spec_l1Cur_next.R : List (Nat × Ty) := [(0, .int .i64)]
def spec_l1Cur_next.X : List ResultVar := [.tmp 2]
noncomputable def spec_l1Cur_next.K := fin spec_l1Cur_next.E ⟨spec_l1Cur_next.P, spec_l1Cur_next.R, fun _ _ => none⟩ spec_l1Cur_next.X spec_l1Cur_next.P.len 0
noncomputable def spec_l1Cur_next.l9 (c : (List Int) × Int × Int) (b : Int) : Option (Int × ((List Int) × Int × Int)) := fixP spec_l1Cur_next.E spec_l1Cur_next.T spec_l1Cur_next.C spec_l1Cur_next.K 9 spec_l1Cur_next.D9 (c, b)
noncomputable def spec_l1Cur_next.f (c : (List Int) × Int × Int) : Option (Int × ((List Int) × Int × Int)) := Fn spec_l1Cur_next.E spec_l1Cur_next.T spec_l1Cur_next.C spec_l1Cur_next.P spec_l1Cur_next.R spec_l1Cur_next.X c
theorem spec_l1Cur_next.l9_eq (c : (List Int) × Int × Int) (b : Int) : spec_l1Cur_next.l9 c b =
  (bif (decide ((w64 (c.2.1 + 1)) ≤ (c.1.length : Int))) then (some (b, c.1, (w64 (c.2.1 + 1)), (IntKind.wrap .u64 ((IntKind.wrap .u64 ((IntKind.wrap .u64 (c.2.2 * 6364136223846793005)) + (IntKind.wrap .u64 b))) + 1442695040888963407)))) else (some ((w64 (andI .u64 (shrI .u64 (IntKind.wrap .u64 ((IntKind.wrap .u64 ((IntKind.wrap .u64 (c.2.2 * 6364136223846793005)) + (IntKind.wrap .u64 b))) + 1442695040888963407)) 40) 255)), c.1, (w64 (c.2.1 + 1)), (IntKind.wrap .u64 ((IntKind.wrap .u64 ((IntKind.wrap .u64 (c.2.2 * 6364136223846793005)) + (IntKind.wrap .u64 b))) + 1442695040888963407))))) :=
  (fixP_eq spec_l1Cur_next.E spec_l1Cur_next.T spec_l1Cur_next.C spec_l1Cur_next.K 9 spec_l1Cur_next.D9 (c, b)).trans (by kernel_rfl)
theorem spec_l1Cur_next.f_eq (c : (List Int) × Int × Int) : spec_l1Cur_next.f c =
  (bif (decide (c.2.1 < (c.1.length : Int))) then (bif ((decide (0 ≤ c.2.1)) && (decide (c.2.1 < (c.1.length : Int)))) then (spec_l1Cur_next.l9 c (w64 (c.1.getD (c.2.1).toNat 0))) else none) else
  (spec_l1Cur_next.l9 c 0)) := by kernel_rfl
noncomputable def spec_l1Cur_next.S : Abs.Sum := ⟨spec_l1Cur_next.P, spec_l1Cur_next.R, fun _ => Fn spec_l1Cur_next.E spec_l1Cur_next.T spec_l1Cur_next.C spec_l1Cur_next.P spec_l1Cur_next.R spec_l1Cur_next.X⟩
theorem spec_l1Cur_next.meets : Meets Try.prog 156 spec_l1Cur_next.S := meets_tab (S := spec_l1Cur_next.U) tabOk_all AllMeets.nil AllStill.nil follows (by kernel_rfl : Try.prog.funcs[156]? = some Try.f156) (by kernel_rfl) (by kernel_rfl) (by kernel_rfl)
noncomputable def spec_l1Cur_pick.C : Code := Try.f114.body.getD .skip
def spec_l1Cur_pick.P : Par := (.cons (.box 0 (.pair (.list (.int .u8)) (.pair (.int .i64) (.one (.int .u64))))) (.cons (.val (.int .i64)) .nil))
noncomputable def spec_l1Cur_pick.U : SumTab := [(156, [], spec_l1Cur_next.S)]
noncomputable def spec_l1Cur_pick.E : Env := mkEnv TY AR spec_l1Cur_pick.U
noncomputable def spec_l1Cur_pick.T : Tab := fun k => look k []
def spec_l1Cur_pick.R : List (Nat × Ty) := [(0, .int .i64)]
def spec_l1Cur_pick.X : List ResultVar := [.tmp 4]
noncomputable def spec_l1Cur_pick.f (c : (List Int) × Int × Int) (n : Int) : Option (Int × ((List Int) × Int × Int)) := Fn spec_l1Cur_pick.E spec_l1Cur_pick.T spec_l1Cur_pick.C spec_l1Cur_pick.P spec_l1Cur_pick.R spec_l1Cur_pick.X (c, n)
theorem spec_l1Cur_pick.f_eq (c : (List Int) × Int × Int) (n : Int) : spec_l1Cur_pick.f c n =
  (bif (decide (n ≤ 1)) then (some (0, c)) else
  ((spec_l1Cur_next.f c).bind fun y1 =>
   bif (decide (n > 200)) then ((spec_l1Cur_next.f y1.2).bind fun y2 =>
    bif (!(decide (n = 0))) then (some (((w64 ((w64 (y1.1 * 256)) + y2.1)).tmod n), y2.2)) else none) else
   (bif (!(decide (n = 0))) then (some ((y1.1.tmod n), y1.2)) else none))) := by kernel_rfl
noncomputable def spec_l1Cur_pick.S : Abs.Sum := ⟨spec_l1Cur_pick.P, spec_l1Cur_pick.R, fun _ => Fn spec_l1Cur_pick.E spec_l1Cur_pick.T spec_l1Cur_pick.C spec_l1Cur_pick.P spec_l1Cur_pick.R spec_l1Cur_pick.X⟩
theorem spec_l1Cur_pick.meets : Meets Try.prog 114 spec_l1Cur_pick.S := meets_tab (S := spec_l1Cur_pick.U) tabOk_all (AllMeets.cons spec_l1Cur_next.meets AllMeets.nil) (AllStill.cons (fun _ _ _ => rfl) AllStill.nil) follows (by kernel_rfl : Try.prog.funcs[114]? = some Try.f114) (by kernel_rfl) (by kernel_rfl) (by kernel_rfl)
noncomputable def spec_l1Cur_of.C : Code := Try.f155.body.getD .skip
def spec_l1Cur_of.P : Par := (.cons (.box 0 (.pair (.list (.int .u8)) (.pair (.int .i64) (.one (.int .u64))))) (.cons (.own 5 .str) .nil))
noncomputable def spec_l1Cur_of.U : SumTab := [(114, [], spec_l1Cur_pick.S)]
noncomputable def spec_l1Cur_of.E : Env := mkEnv TY AR spec_l1Cur_of.U
noncomputable def spec_l1Cur_of.T : Tab := fun k => look k []
def spec_l1Cur_of.R : List (Nat × Ty) := [(0, .str)]
def spec_l1Cur_of.X : List ResultVar := [.tmp 4]
noncomputable def spec_l1Cur_of.f (c : (List Int) × Int × Int) (list : List ByteArray) : Option (ByteArray × ((List Int) × Int × Int)) := Fn spec_l1Cur_of.E spec_l1Cur_of.T spec_l1Cur_of.C spec_l1Cur_of.P spec_l1Cur_of.R spec_l1Cur_of.X (c, list)
theorem spec_l1Cur_of.f_eq (c : (List Int) × Int × Int) (list : List ByteArray) : spec_l1Cur_of.f c list =
  ((spec_l1Cur_pick.f c (list.length : Int)).bind fun y1 =>
  bif ((decide (0 ≤ y1.1)) && (decide (y1.1 < (list.length : Int)))) then (some ((list.getD (y1.1).toNat em), y1.2)) else none) := by kernel_rfl
noncomputable def spec_l1Cur_of.S : Abs.Sum := ⟨spec_l1Cur_of.P, spec_l1Cur_of.R, fun _ => Fn spec_l1Cur_of.E spec_l1Cur_of.T spec_l1Cur_of.C spec_l1Cur_of.P spec_l1Cur_of.R spec_l1Cur_of.X⟩
theorem spec_l1Cur_of.meets : Meets Try.prog 155 spec_l1Cur_of.S := meets_tab (S := spec_l1Cur_of.U) tabOk_all (AllMeets.cons spec_l1Cur_pick.meets AllMeets.nil) (AllStill.cons (fun _ _ _ => rfl) AllStill.nil) follows (by kernel_rfl : Try.prog.funcs[155]? = some Try.f155) (by kernel_rfl) (by kernel_rfl) (by kernel_rfl)
noncomputable def spec_l1Cur_line.C : Code := Try.f159.body.getD .skip
def spec_l1Cur_line.P : Par := (.cons (.box 0 (.pair (.list (.int .u8)) (.pair (.int .i64) (.one (.int .u64))))) .nil)
noncomputable def spec_l1Cur_line.U : SumTab := [(155, [], spec_l1Cur_of.S)]
noncomputable def spec_l1Cur_line.E : Env := mkEnv TY AR spec_l1Cur_line.U
noncomputable def spec_l1Cur_line.T : Tab := fun k => look k []
def spec_l1Cur_line.R : List (Nat × Ty) := [(0, .str)]
def spec_l1Cur_line.X : List ResultVar := [.tmp 2]
noncomputable def spec_l1Cur_line.f (c : (List Int) × Int × Int) : Option (ByteArray × ((List Int) × Int × Int)) := Fn spec_l1Cur_line.E spec_l1Cur_line.T spec_l1Cur_line.C spec_l1Cur_line.P spec_l1Cur_line.R spec_l1Cur_line.X c
theorem spec_l1Cur_line.f_eq (c : (List Int) × Int × Int) : spec_l1Cur_line.f c =
  ((spec_l1Cur_of.f c [(⟨#[97]⟩ : ByteArray), (⟨#[98]⟩ : ByteArray), (⟨#[99]⟩ : ByteArray), (⟨#[100]⟩ : ByteArray), em, (⟨#[46]⟩ : ByteArray), (⟨#[46, 46]⟩ : ByteArray), (⟨#[111, 110, 101, 32, 116, 119, 111]⟩ : ByteArray), (⟨#[43, 120]⟩ : ByteArray), (⟨#[45, 121]⟩ : ByteArray), (⟨#[92, 32, 122]⟩ : ByteArray), (⟨#[64, 64]⟩ : ByteArray)]).bind fun y1 =>
  some (y1.1, y1.2)) := by kernel_rfl
noncomputable def spec_l1Cur_line.S : Abs.Sum := ⟨spec_l1Cur_line.P, spec_l1Cur_line.R, fun _ => Fn spec_l1Cur_line.E spec_l1Cur_line.T spec_l1Cur_line.C spec_l1Cur_line.P spec_l1Cur_line.R spec_l1Cur_line.X⟩
theorem spec_l1Cur_line.meets : Meets Try.prog 159 spec_l1Cur_line.S := meets_tab (S := spec_l1Cur_line.U) tabOk_all (AllMeets.cons spec_l1Cur_of.meets AllMeets.nil) (AllStill.cons (fun _ _ _ => rfl) AllStill.nil) follows (by kernel_rfl : Try.prog.funcs[159]? = some Try.f159) (by kernel_rfl) (by kernel_rfl) (by kernel_rfl)
noncomputable def spec_l1Cur_one.C : Code := Try.f122.body.getD .skip
def spec_l1Cur_one.P : Par := (.cons (.box 0 (.pair (.list (.int .u8)) (.pair (.int .i64) (.one (.int .u64))))) (.cons (.val (.int .i64)) .nil))
noncomputable def spec_l1Cur_one.U : SumTab := [(114, [], spec_l1Cur_pick.S)]
noncomputable def spec_l1Cur_one.E : Env := mkEnv TY AR spec_l1Cur_one.U
noncomputable def spec_l1Cur_one.T : Tab := fun k => look k []
def spec_l1Cur_one.R : List (Nat × Ty) := [(0, .bool)]
def spec_l1Cur_one.X : List ResultVar := [.tmp 4]
noncomputable def spec_l1Cur_one.f (c : (List Int) × Int × Int) (n : Int) : Option (Bool × ((List Int) × Int × Int)) := Fn spec_l1Cur_one.E spec_l1Cur_one.T spec_l1Cur_one.C spec_l1Cur_one.P spec_l1Cur_one.R spec_l1Cur_one.X (c, n)
theorem spec_l1Cur_one.f_eq (c : (List Int) × Int × Int) (n : Int) : spec_l1Cur_one.f c n =
  ((spec_l1Cur_pick.f c n).bind fun y1 =>
  some ((decide (y1.1 = 0)), y1.2)) := by kernel_rfl
noncomputable def spec_l1Cur_one.S : Abs.Sum := ⟨spec_l1Cur_one.P, spec_l1Cur_one.R, fun _ => Fn spec_l1Cur_one.E spec_l1Cur_one.T spec_l1Cur_one.C spec_l1Cur_one.P spec_l1Cur_one.R spec_l1Cur_one.X⟩
theorem spec_l1Cur_one.meets : Meets Try.prog 122 spec_l1Cur_one.S := meets_tab (S := spec_l1Cur_one.U) tabOk_all (AllMeets.cons spec_l1Cur_pick.meets AllMeets.nil) (AllStill.cons (fun _ _ _ => rfl) AllStill.nil) follows (by kernel_rfl : Try.prog.funcs[122]? = some Try.f122) (by kernel_rfl) (by kernel_rfl) (by kernel_rfl)
noncomputable def spec_l1Cur_text.C : Code := Try.f152.body.getD .skip
def spec_l1Cur_text.P : Par := (.cons (.box 0 (.pair (.list (.int .u8)) (.pair (.int .i64) (.one (.int .u64))))) .nil)
noncomputable def spec_l1Cur_text.U : SumTab := [(114, [], spec_l1Cur_pick.S), (159, [], spec_l1Cur_line.S), (122, [], spec_l1Cur_one.S), (155, [], spec_l1Cur_of.S)]
noncomputable def spec_l1Cur_text.E : Env := mkEnv TY AR spec_l1Cur_text.U
def spec_l1Cur_text.D6 : CutD := ⟨[0, 3, 4], (.cons (.box 0 (.pair (.list (.int .u8)) (.pair (.int .i64) (.one (.int .u64))))) (.cons (.own 9 .str) (.cons (.val (.int .i64)) .nil)))⟩
noncomputable def spec_l1Cur_text.T : Tab := fun k => look k [(6, spec_l1Cur_text.D6)]
def spec_l1Cur_text.R : List (Nat × Ty) := [(9, .list .str)]
def spec_l1Cur_text.X : List ResultVar := [.tmp 2]
noncomputable def spec_l1Cur_text.K := fin spec_l1Cur_text.E ⟨spec_l1Cur_text.P, spec_l1Cur_text.R, fun _ _ => none⟩ spec_l1Cur_text.X spec_l1Cur_text.P.len 0
noncomputable def spec_l1Cur_text.l6 (c : (List Int) × Int × Int) (l : List ByteArray) (n : Int) : Option ((List ByteArray) × ((List Int) × Int × Int)) := fixP spec_l1Cur_text.E spec_l1Cur_text.T spec_l1Cur_text.C spec_l1Cur_text.K 6 spec_l1Cur_text.D6 (c, l, n)
noncomputable def spec_l1Cur_text.f (c : (List Int) × Int × Int) : Option ((List ByteArray) × ((List Int) × Int × Int)) := Fn spec_l1Cur_text.E spec_l1Cur_text.T spec_l1Cur_text.C spec_l1Cur_text.P spec_l1Cur_text.R spec_l1Cur_text.X c
theorem spec_l1Cur_text.l6_eq (c : (List Int) × Int × Int) (l : List ByteArray) (n : Int) : spec_l1Cur_text.l6 c l n =
  (bif (decide (n > 0)) then ((spec_l1Cur_line.f c).bind fun y1 =>
   bif (decide ((y1.1.size + (⟨#[10]⟩ : ByteArray).size) ≤ 9223372036854775807)) then (bif (decide ((l.length + [(y1.1 ++ (⟨#[10]⟩ : ByteArray))].length) ≤ room 16)) then (spec_l1Cur_text.l6 y1.2 (l ++ [(y1.1 ++ (⟨#[10]⟩ : ByteArray))]) (w64 (n - 1))) else none) else none) else
  ((spec_l1Cur_one.f c 5).bind fun y1 =>
   bif y1.1 then ((spec_l1Cur_of.f y1.2 [(⟨#[97]⟩ : ByteArray), (⟨#[101, 110, 100]⟩ : ByteArray), (⟨#[46]⟩ : ByteArray)]).bind fun y2 =>
    bif (decide ((l.length + [y2.1].length) ≤ room 16)) then (some ((l ++ [y2.1]), y2.2)) else none) else (some (l, y1.2)))) :=
  (fixP_eq spec_l1Cur_text.E spec_l1Cur_text.T spec_l1Cur_text.C spec_l1Cur_text.K 6 spec_l1Cur_text.D6 (c, l, n)).trans (by kernel_rfl)
theorem spec_l1Cur_text.f_eq (c : (List Int) × Int × Int) : spec_l1Cur_text.f c =
  ((spec_l1Cur_pick.f c 9).bind fun y1 =>
  spec_l1Cur_text.l6 y1.2 ([] : List ByteArray) y1.1) := by kernel_rfl
noncomputable def spec_l1Cur_text.S : Abs.Sum := ⟨spec_l1Cur_text.P, spec_l1Cur_text.R, fun _ => Fn spec_l1Cur_text.E spec_l1Cur_text.T spec_l1Cur_text.C spec_l1Cur_text.P spec_l1Cur_text.R spec_l1Cur_text.X⟩
theorem spec_l1Cur_text.meets : Meets Try.prog 152 spec_l1Cur_text.S := meets_tab (S := spec_l1Cur_text.U) tabOk_all (AllMeets.cons spec_l1Cur_pick.meets (AllMeets.cons spec_l1Cur_line.meets (AllMeets.cons spec_l1Cur_one.meets (AllMeets.cons spec_l1Cur_of.meets AllMeets.nil)))) (AllStill.cons (fun _ _ _ => rfl) (AllStill.cons (fun _ _ _ => rfl) (AllStill.cons (fun _ _ _ => rfl) (AllStill.cons (fun _ _ _ => rfl) AllStill.nil)))) follows (by kernel_rfl : Try.prog.funcs[152]? = some Try.f152) (by kernel_rfl) (by kernel_rfl) (by kernel_rfl)
noncomputable def spec_l1Least.C : Code := Try.f174.body.getD .skip
def spec_l1Least.P : Par := (.cons (.val (.int .i64)) (.cons (.val (.int .i64)) .nil))
noncomputable def spec_l1Least.U : SumTab := []
noncomputable def spec_l1Least.E : Env := mkEnv TY AR spec_l1Least.U
noncomputable def spec_l1Least.T : Tab := fun k => look k []
def spec_l1Least.R : List (Nat × Ty) := [(0, .int .i64)]
def spec_l1Least.X : List ResultVar := [.tmp 4]
noncomputable def spec_l1Least.f (a : Int) (b : Int) : Option (Int) := Fn spec_l1Least.E spec_l1Least.T spec_l1Least.C spec_l1Least.P spec_l1Least.R spec_l1Least.X (a, b)
theorem spec_l1Least.f_eq (a : Int) (b : Int) : spec_l1Least.f a b =
  (bif (decide (a < b)) then (some a) else (some b)) := by kernel_rfl
noncomputable def spec_l1Least.S : Abs.Sum := ⟨spec_l1Least.P, spec_l1Least.R, fun _ => Fn spec_l1Least.E spec_l1Least.T spec_l1Least.C spec_l1Least.P spec_l1Least.R spec_l1Least.X⟩
theorem spec_l1Least.meets : Meets Try.prog 174 spec_l1Least.S := meets_tab (S := spec_l1Least.U) tabOk_all AllMeets.nil AllStill.nil follows (by kernel_rfl : Try.prog.funcs[174]? = some Try.f174) (by kernel_rfl) (by kernel_rfl) (by kernel_rfl)
noncomputable def spec_l1Whole.C : Code := Try.f160.body.getD .skip
def spec_l1Whole.P : Par := (.cons (.val (.list .str)) .nil)
noncomputable def spec_l1Whole.U : SumTab := [(132, [], spec_l1Ends.S)]
noncomputable def spec_l1Whole.E : Env := mkEnv TY AR spec_l1Whole.U
noncomputable def spec_l1Whole.T : Tab := fun k => look k []
def spec_l1Whole.R : List (Nat × Ty) := [(0, .bool)]
def spec_l1Whole.X : List ResultVar := [.tmp 2]
noncomputable def spec_l1Whole.f (l : List ByteArray) : Option (Bool) := Fn spec_l1Whole.E spec_l1Whole.T spec_l1Whole.C spec_l1Whole.P spec_l1Whole.R spec_l1Whole.X l
theorem spec_l1Whole.f_eq (l : List ByteArray) : spec_l1Whole.f l =
  (bif (decide ((l.length : Int) = 0)) then (some true) else
  (bif ((decide (0 ≤ (w64 ((l.length : Int) - 1)))) && (decide ((w64 ((l.length : Int) - 1)) < (l.length : Int)))) then ((spec_l1Ends.f (l.getD ((w64 ((l.length : Int) - 1))).toNat em)).bind fun y1 =>
    some y1) else none)) := by kernel_rfl
noncomputable def spec_l1Whole.S : Abs.Sum := ⟨spec_l1Whole.P, spec_l1Whole.R, fun _ => Fn spec_l1Whole.E spec_l1Whole.T spec_l1Whole.C spec_l1Whole.P spec_l1Whole.R spec_l1Whole.X⟩
theorem spec_l1Whole.meets : Meets Try.prog 160 spec_l1Whole.S := meets_tab (S := spec_l1Whole.U) tabOk_all (AllMeets.cons spec_l1Ends.meets AllMeets.nil) (AllStill.cons (fun _ _ _ => rfl) AllStill.nil) follows (by kernel_rfl : Try.prog.funcs[160]? = some Try.f160) (by kernel_rfl) (by kernel_rfl) (by kernel_rfl)
noncomputable def spec_l1Cur_hunks.C : Code := Try.f154.body.getD .skip
def spec_l1Cur_hunks.P : Par := (.cons (.box 0 (.pair (.list (.int .u8)) (.pair (.int .i64) (.one (.int .u64))))) (.cons (.val (.list .str)) .nil))
noncomputable def spec_l1Cur_hunks.U : SumTab := [(114, [], spec_l1Cur_pick.S), (174, [], spec_l1Least.S), (159, [], spec_l1Cur_line.S), (160, [], spec_l1Whole.S)]
noncomputable def spec_l1Cur_hunks.E : Env := mkEnv TY AR spec_l1Cur_hunks.U
def spec_l1Cur_hunks.D6 : CutD := ⟨[0, 1, 5, 6], (.cons (.box 0 (.pair (.list (.int .u8)) (.pair (.int .i64) (.one (.int .u64))))) (.cons (.val (.list .str)) (.cons (.own 9 (.pair (.int .i64) (.pair (.int .i64) (.one (.list .str))))) (.cons (.val (.int .i64)) .nil))))⟩
def spec_l1Cur_hunks.D9 : CutD := ⟨[0, 1, 5, 6], (.cons (.box 0 (.pair (.list (.int .u8)) (.pair (.int .i64) (.one (.int .u64))))) (.cons (.val (.list .str)) (.cons (.own 9 (.pair (.int .i64) (.pair (.int .i64) (.one (.list .str))))) (.cons (.val (.int .i64)) .nil))))⟩
def spec_l1Cur_hunks.D12 : CutD := ⟨[0, 1, 5, 6, 7, 8], (.cons (.box 0 (.pair (.list (.int .u8)) (.pair (.int .i64) (.one (.int .u64))))) (.cons (.val (.list .str)) (.cons (.own 9 (.pair (.int .i64) (.pair (.int .i64) (.one (.list .str))))) (.cons (.val (.int .i64)) (.cons (.box 9 (.pair (.int .i64) (.pair (.int .i64) (.one (.list .str))))) (.cons (.val (.int .i64)) .nil))))))⟩
noncomputable def spec_l1Cur_hunks.T : Tab := fun k => look k [(6, spec_l1Cur_hunks.D6), (9, spec_l1Cur_hunks.D9), (12, spec_l1Cur_hunks.D12)]
def spec_l1Cur_hunks.R : List (Nat × Ty) := [(9, .list (.pair (.int .i64) (.pair (.int .i64) (.one (.list .str)))))]
def spec_l1Cur_hunks.X : List ResultVar := [.tmp 4]
noncomputable def spec_l1Cur_hunks.K := fin spec_l1Cur_hunks.E ⟨spec_l1Cur_hunks.P, spec_l1Cur_hunks.R, fun _ _ => none⟩ spec_l1Cur_hunks.X spec_l1Cur_hunks.P.len 0
noncomputable def spec_l1Cur_hunks.l6 (c : (List Int) × Int × Int) (l : List ByteArray) (out : List (Int × Int × List ByteArray)) (t6 : Int) : Option ((List (Int × Int × List ByteArray)) × ((List Int) × Int × Int)) := fixP spec_l1Cur_hunks.E spec_l1Cur_hunks.T spec_l1Cur_hunks.C spec_l1Cur_hunks.K 6 spec_l1Cur_hunks.D6 (c, l, out, t6)
noncomputable def spec_l1Cur_hunks.l9 (c : (List Int) × Int × Int) (l : List ByteArray) (out : List (Int × Int × List ByteArray)) (t6 : Int) : Option ((List (Int × Int × List ByteArray)) × ((List Int) × Int × Int)) := fixP spec_l1Cur_hunks.E spec_l1Cur_hunks.T spec_l1Cur_hunks.C spec_l1Cur_hunks.K 9 spec_l1Cur_hunks.D9 (c, l, out, t6)
noncomputable def spec_l1Cur_hunks.l12 (c : (List Int) × Int × Int) (l : List ByteArray) (out : List (Int × Int × List ByteArray)) (t6 : Int) (x : Int × Int × List ByteArray) (n : Int) : Option ((List (Int × Int × List ByteArray)) × ((List Int) × Int × Int)) := fixP spec_l1Cur_hunks.E spec_l1Cur_hunks.T spec_l1Cur_hunks.C spec_l1Cur_hunks.K 12 spec_l1Cur_hunks.D12 (c, l, out, t6, x, n)
noncomputable def spec_l1Cur_hunks.f (c : (List Int) × Int × Int) (l : List ByteArray) : Option ((List (Int × Int × List ByteArray)) × ((List Int) × Int × Int)) := Fn spec_l1Cur_hunks.E spec_l1Cur_hunks.T spec_l1Cur_hunks.C spec_l1Cur_hunks.P spec_l1Cur_hunks.R spec_l1Cur_hunks.X (c, l)
theorem spec_l1Cur_hunks.l6_eq (c : (List Int) × Int × Int) (l : List ByteArray) (out : List (Int × Int × List ByteArray)) (t6 : Int) : spec_l1Cur_hunks.l6 c l out t6 =
  (bif (decide (t6 ≤ (l.length : Int))) then (bif (decide ((out.length : Int) < 6)) then (spec_l1Cur_hunks.l9 c l out t6) else (some (out, c))) else (some (out, c))) :=
  (fixP_eq spec_l1Cur_hunks.E spec_l1Cur_hunks.T spec_l1Cur_hunks.C spec_l1Cur_hunks.K 6 spec_l1Cur_hunks.D6 (c, l, out, t6)).trans (by kernel_rfl)
theorem spec_l1Cur_hunks.l9_eq (c : (List Int) × Int × Int) (l : List ByteArray) (out : List (Int × Int × List ByteArray)) (t6 : Int) : spec_l1Cur_hunks.l9 c l out t6 =
  ((spec_l1Least.f 3 (w64 ((l.length : Int) - t6))).bind fun y1 =>
  (spec_l1Cur_pick.f c (w64 (y1 + 1))).bind fun y2 =>
  (spec_l1Cur_pick.f y2.2 3).bind fun y3 =>
  spec_l1Cur_hunks.l12 y3.2 l out t6 (t6, y2.1, ([] : List ByteArray)) y3.1) :=
  (fixP_eq spec_l1Cur_hunks.E spec_l1Cur_hunks.T spec_l1Cur_hunks.C spec_l1Cur_hunks.K 9 spec_l1Cur_hunks.D9 (c, l, out, t6)).trans (by kernel_rfl)
theorem spec_l1Cur_hunks.l12_eq (c : (List Int) × Int × Int) (l : List ByteArray) (out : List (Int × Int × List ByteArray)) (t6 : Int) (x : Int × Int × List ByteArray) (n : Int) : spec_l1Cur_hunks.l12 c l out t6 x n =
  (bif (decide (n > 0)) then ((spec_l1Cur_line.f c).bind fun y1 =>
   bif (decide ((y1.1.size + (⟨#[10]⟩ : ByteArray).size) ≤ 9223372036854775807)) then (bif (decide ((x.2.2.length + [(y1.1 ++ (⟨#[10]⟩ : ByteArray))].length) ≤ room 16)) then (spec_l1Cur_hunks.l12 y1.2 l out t6 (x.1, x.2.1, (x.2.2 ++ [(y1.1 ++ (⟨#[10]⟩ : ByteArray))])) (w64 (n - 1))) else none) else none) else
  (bif (decide ((w64 (x.2.1 + (x.2.2.length : Int))) > 0)) then (bif (decide ((w64 (t6 + x.2.1)) < (l.length : Int))) then (bif (decide ((out.length + [(x.1, x.2.1, x.2.2)].length) ≤ room 40)) then ((spec_l1Cur_pick.f c 3).bind fun y1 =>
      spec_l1Cur_hunks.l6 y1.2 l (out ++ [(x.1, x.2.1, x.2.2)]) (w64 (t6 + (w64 ((w64 (x.2.1 + 1)) + y1.1))))) else none) else
    ((spec_l1Whole.f l).bind fun y1 =>
     bif y1 then (bif (decide ((out.length + [(x.1, x.2.1, x.2.2)].length) ≤ room 40)) then ((spec_l1Cur_pick.f c 3).bind fun y2 =>
       spec_l1Cur_hunks.l6 y2.2 l (out ++ [(x.1, x.2.1, x.2.2)]) (w64 (t6 + (w64 ((w64 (x.2.1 + 1)) + y2.1))))) else none) else
     (bif (decide (x.2.1 > 0)) then (bif (decide ((out.length + [(x.1, x.2.1, x.2.2)].length) ≤ room 40)) then ((spec_l1Cur_pick.f c 3).bind fun y2 =>
        spec_l1Cur_hunks.l6 y2.2 l (out ++ [(x.1, x.2.1, x.2.2)]) (w64 (t6 + (w64 ((w64 (x.2.1 + 1)) + y2.1))))) else none) else
      ((spec_l1Cur_pick.f c 3).bind fun y2 =>
       spec_l1Cur_hunks.l6 y2.2 l out (w64 (t6 + (w64 ((w64 (x.2.1 + 1)) + y2.1)))))))) else
   ((spec_l1Cur_pick.f c 3).bind fun y1 =>
    spec_l1Cur_hunks.l6 y1.2 l out (w64 (t6 + (w64 ((w64 (x.2.1 + 1)) + y1.1))))))) :=
  (fixP_eq spec_l1Cur_hunks.E spec_l1Cur_hunks.T spec_l1Cur_hunks.C spec_l1Cur_hunks.K 12 spec_l1Cur_hunks.D12 (c, l, out, t6, x, n)).trans (by kernel_rfl)
theorem spec_l1Cur_hunks.f_eq (c : (List Int) × Int × Int) (l : List ByteArray) : spec_l1Cur_hunks.f c l =
  ((spec_l1Cur_pick.f c 3).bind fun y1 =>
  spec_l1Cur_hunks.l6 y1.2 l ([] : List (Int × Int × List ByteArray)) y1.1) := by kernel_rfl
noncomputable def spec_l1Cur_hunks.S : Abs.Sum := ⟨spec_l1Cur_hunks.P, spec_l1Cur_hunks.R, fun _ => Fn spec_l1Cur_hunks.E spec_l1Cur_hunks.T spec_l1Cur_hunks.C spec_l1Cur_hunks.P spec_l1Cur_hunks.R spec_l1Cur_hunks.X⟩
theorem spec_l1Cur_hunks.meets : Meets Try.prog 154 spec_l1Cur_hunks.S := meets_tab (S := spec_l1Cur_hunks.U) tabOk_all (AllMeets.cons spec_l1Cur_pick.meets (AllMeets.cons spec_l1Least.meets (AllMeets.cons spec_l1Cur_line.meets (AllMeets.cons spec_l1Whole.meets AllMeets.nil)))) (AllStill.cons (fun _ _ _ => rfl) (AllStill.cons (fun _ _ _ => rfl) (AllStill.cons (fun _ _ _ => rfl) (AllStill.cons (fun _ _ _ => rfl) AllStill.nil)))) follows (by kernel_rfl : Try.prog.funcs[154]? = some Try.f154) (by kernel_rfl) (by kernel_rfl) (by kernel_rfl)
noncomputable def spec_l1Cur_among.C : Code := Try.f129.body.getD .skip
def spec_l1Cur_among.P : Par := (.cons (.box 0 (.pair (.list (.int .u8)) (.pair (.int .i64) (.one (.int .u64))))) (.cons (.own 5 (.int .i64)) .nil))
noncomputable def spec_l1Cur_among.U : SumTab := [(114, [], spec_l1Cur_pick.S)]
noncomputable def spec_l1Cur_among.E : Env := mkEnv TY AR spec_l1Cur_among.U
noncomputable def spec_l1Cur_among.T : Tab := fun k => look k []
def spec_l1Cur_among.R : List (Nat × Ty) := [(0, .int .i64)]
def spec_l1Cur_among.X : List ResultVar := [.tmp 4]
noncomputable def spec_l1Cur_among.f (c : (List Int) × Int × Int) (list : List Int) : Option (Int × ((List Int) × Int × Int)) := Fn spec_l1Cur_among.E spec_l1Cur_among.T spec_l1Cur_among.C spec_l1Cur_among.P spec_l1Cur_among.R spec_l1Cur_among.X (c, list)
theorem spec_l1Cur_among.f_eq (c : (List Int) × Int × Int) (list : List Int) : spec_l1Cur_among.f c list =
  ((spec_l1Cur_pick.f c (list.length : Int)).bind fun y1 =>
  bif ((decide (0 ≤ y1.1)) && (decide (y1.1 < (list.length : Int)))) then (some ((list.getD (y1.1).toNat 0), y1.2)) else none) := by kernel_rfl
noncomputable def spec_l1Cur_among.S : Abs.Sum := ⟨spec_l1Cur_among.P, spec_l1Cur_among.R, fun _ => Fn spec_l1Cur_among.E spec_l1Cur_among.T spec_l1Cur_among.C spec_l1Cur_among.P spec_l1Cur_among.R spec_l1Cur_among.X⟩
theorem spec_l1Cur_among.meets : Meets Try.prog 129 spec_l1Cur_among.S := meets_tab (S := spec_l1Cur_among.U) tabOk_all (AllMeets.cons spec_l1Cur_pick.meets AllMeets.nil) (AllStill.cons (fun _ _ _ => rfl) AllStill.nil) follows (by kernel_rfl : Try.prog.funcs[129]? = some Try.f129) (by kernel_rfl) (by kernel_rfl) (by kernel_rfl)
noncomputable def spec_l2Asked.C : Code := Try.f162.body.getD .skip
def spec_l2Asked.P : Par := (.cons (.val (.list .str)) (.cons (.val (.list (.pair (.int .i64) (.pair (.int .i64) (.one (.list .str)))))) .nil))
noncomputable def spec_l2Asked.U : SumTab := [(75, [], spec_l1Good.S), (98, [], spec_l2Hunks.S)]
noncomputable def spec_l2Asked.E : Env := mkEnv TY AR spec_l2Asked.U
noncomputable def spec_l2Asked.T : Tab := fun k => look k []
def spec_l2Asked.R : List (Nat × Ty) := [(0, .bool)]
def spec_l2Asked.X : List ResultVar := [.tmp 4]
noncomputable def spec_l2Asked.f (l : List ByteArray) (h : List (Int × Int × List ByteArray)) : Option (Bool) := Fn spec_l2Asked.E spec_l2Asked.T spec_l2Asked.C spec_l2Asked.P spec_l2Asked.R spec_l2Asked.X (l, h)
theorem spec_l2Asked.f_eq (l : List ByteArray) (h : List (Int × Int × List ByteArray)) : spec_l2Asked.f l h =
  ((spec_l1Good.f l).bind fun y1 =>
  bif y1 then ((spec_l2Hunks.f (l.length : Int) h).bind fun y2 =>
   some y2) else (some false)) := by kernel_rfl
noncomputable def spec_l2Asked.S : Abs.Sum := ⟨spec_l2Asked.P, spec_l2Asked.R, fun _ => Fn spec_l2Asked.E spec_l2Asked.T spec_l2Asked.C spec_l2Asked.P spec_l2Asked.R spec_l2Asked.X⟩
theorem spec_l2Asked.meets : Meets Try.prog 162 spec_l2Asked.S := meets_tab (S := spec_l2Asked.U) tabOk_all (AllMeets.cons spec_l1Good.meets (AllMeets.cons spec_l2Hunks.meets AllMeets.nil)) (AllStill.cons (fun _ _ _ => rfl) (AllStill.cons (fun _ _ _ => rfl) AllStill.nil)) follows (by kernel_rfl : Try.prog.funcs[162]? = some Try.f162) (by kernel_rfl) (by kernel_rfl) (by kernel_rfl)
noncomputable def spec_l2Patch.C : Code := Try.f163.body.getD .skip
def spec_l2Patch.P : Par := (.cons (.val (.list .str)) (.cons (.val (.list (.pair (.int .i64) (.pair (.int .i64) (.one (.list .str)))))) .nil))
noncomputable def spec_l2Patch.U : SumTab := []
noncomputable def spec_l2Patch.E : Env := mkEnv TY AR spec_l2Patch.U
def spec_l2Patch.D8 : CutD := ⟨[0, 5, 6, 9, 10, 11], (.cons (.val (.list .str)) (.cons (.own 9 .str) (.cons (.val (.int .i64)) (.cons (.val (.list (.pair (.int .i64) (.pair (.int .i64) (.one (.list .str)))))) (.cons (.val (.int .i64)) (.cons (.val (.int .i64)) .nil))))))⟩
noncomputable def spec_l2Patch.T : Tab := fun k => look k [(8, spec_l2Patch.D8)]
def spec_l2Patch.R : List (Nat × Ty) := [(9, .list .str)]
def spec_l2Patch.X : List ResultVar := [.tmp 4]
noncomputable def spec_l2Patch.K := fin spec_l2Patch.E ⟨spec_l2Patch.P, spec_l2Patch.R, fun _ _ => none⟩ spec_l2Patch.X spec_l2Patch.P.len 0
noncomputable def spec_l2Patch.l8 (l : List ByteArray) (out : List ByteArray) (t6 : Int) (t9 : List (Int × Int × List ByteArray)) (t10 : Int) (t11 : Int) : Option ((List ByteArray)) := fixP spec_l2Patch.E spec_l2Patch.T spec_l2Patch.C spec_l2Patch.K 8 spec_l2Patch.D8 (l, out, t6, t9, t10, t11)
noncomputable def spec_l2Patch.f (l : List ByteArray) (h : List (Int × Int × List ByteArray)) : Option ((List ByteArray)) := Fn spec_l2Patch.E spec_l2Patch.T spec_l2Patch.C spec_l2Patch.P spec_l2Patch.R spec_l2Patch.X (l, h)
theorem spec_l2Patch.l8_eq (l : List ByteArray) (out : List ByteArray) (t6 : Int) (t9 : List (Int × Int × List ByteArray)) (t10 : Int) (t11 : Int) : spec_l2Patch.l8 l out t6 t9 t10 t11 =
  (bif (decide (t11 < t10)) then (bif ((decide (0 ≤ t11)) && (decide (t11 < (t9.length : Int)))) then (bif ((decide (0 ≤ t6)) && ((decide (t6 ≤ (t9.getD (t11).toNat (0, 0, ([] : List ByteArray))).1)) && (decide ((t9.getD (t11).toNat (0, 0, ([] : List ByteArray))).1 ≤ (l.length : Int))))) then (bif (decide ((out.length + ((l.take ((t9.getD (t11).toNat (0, 0, ([] : List ByteArray))).1).toNat).drop (t6).toNat).length) ≤ room 16)) then (bif (decide (((out ++ ((l.take ((t9.getD (t11).toNat (0, 0, ([] : List ByteArray))).1).toNat).drop (t6).toNat)).length + (t9.getD (t11).toNat (0, 0, ([] : List ByteArray))).2.2.length) ≤ room 16)) then (spec_l2Patch.l8 l ((out ++ ((l.take ((t9.getD (t11).toNat (0, 0, ([] : List ByteArray))).1).toNat).drop (t6).toNat)) ++ (t9.getD (t11).toNat (0, 0, ([] : List ByteArray))).2.2) (w64 ((t9.getD (t11).toNat (0, 0, ([] : List ByteArray))).1 + (t9.getD (t11).toNat (0, 0, ([] : List ByteArray))).2.1)) t9 t10 (w64 (t11 + 1))) else none) else none) else none) else none) else
  (bif ((decide (0 ≤ t6)) && (decide (t6 ≤ (l.length : Int)))) then (bif (decide ((out.length + (l.drop (t6).toNat).length) ≤ room 16)) then (some (out ++ (l.drop (t6).toNat))) else none) else none)) :=
  (fixP_eq spec_l2Patch.E spec_l2Patch.T spec_l2Patch.C spec_l2Patch.K 8 spec_l2Patch.D8 (l, out, t6, t9, t10, t11)).trans (by kernel_rfl)
theorem spec_l2Patch.f_eq (l : List ByteArray) (h : List (Int × Int × List ByteArray)) : spec_l2Patch.f l h =
  (spec_l2Patch.l8 l ([] : List ByteArray) 0 h (h.length : Int) 0) := by kernel_rfl
noncomputable def spec_l2Patch.S : Abs.Sum := ⟨spec_l2Patch.P, spec_l2Patch.R, fun _ => Fn spec_l2Patch.E spec_l2Patch.T spec_l2Patch.C spec_l2Patch.P spec_l2Patch.R spec_l2Patch.X⟩
theorem spec_l2Patch.meets : Meets Try.prog 163 spec_l2Patch.S := meets_tab (S := spec_l2Patch.U) tabOk_all AllMeets.nil AllStill.nil follows (by kernel_rfl : Try.prog.funcs[163]? = some Try.f163) (by kernel_rfl) (by kernel_rfl) (by kernel_rfl)
noncomputable def spec_Patch.C : Code := Try.f125.body.getD .skip
def spec_Patch.P : Par := (.cons (.val (.list .str)) (.cons (.val (.list (.pair (.int .i64) (.pair (.int .i64) (.one (.list .str)))))) .nil))
noncomputable def spec_Patch.U : SumTab := [(162, [], spec_l2Asked.S), (163, [], spec_l2Patch.S), (75, [], spec_l1Good.S)]
noncomputable def spec_Patch.E : Env := mkEnv TY AR spec_Patch.U
noncomputable def spec_Patch.T : Tab := fun k => look k []
def spec_Patch.R : List (Nat × Ty) := [(9, .list .str), (0, .bool)]
def spec_Patch.X : List ResultVar := [.tmp 4, .tmp 5]
noncomputable def spec_Patch.f (l : List ByteArray) (h : List (Int × Int × List ByteArray)) : Option ((List ByteArray) × Bool) := Fn spec_Patch.E spec_Patch.T spec_Patch.C spec_Patch.P spec_Patch.R spec_Patch.X (l, h)
theorem spec_Patch.f_eq (l : List ByteArray) (h : List (Int × Int × List ByteArray)) : spec_Patch.f l h =
  ((spec_l2Asked.f l h).bind fun y1 =>
  bif (!y1) then (some (([] : List ByteArray), false)) else
  ((spec_l2Patch.f l h).bind fun y2 =>
   (spec_l1Good.f y2).bind fun y3 =>
   bif (!y3) then (some (([] : List ByteArray), false)) else (some (y2, true)))) := by kernel_rfl
noncomputable def spec_Patch.S : Abs.Sum := ⟨spec_Patch.P, spec_Patch.R, fun _ => Fn spec_Patch.E spec_Patch.T spec_Patch.C spec_Patch.P spec_Patch.R spec_Patch.X⟩
theorem spec_Patch.meets : Meets Try.prog 125 spec_Patch.S := meets_tab (S := spec_Patch.U) tabOk_all (AllMeets.cons spec_l2Asked.meets (AllMeets.cons spec_l2Patch.meets (AllMeets.cons spec_l1Good.meets AllMeets.nil))) (AllStill.cons (fun _ _ _ => rfl) (AllStill.cons (fun _ _ _ => rfl) (AllStill.cons (fun _ _ _ => rfl) AllStill.nil))) follows (by kernel_rfl : Try.prog.funcs[125]? = some Try.f125) (by kernel_rfl) (by kernel_rfl) (by kernel_rfl)
noncomputable def spec_l1Plain.C : Code := Try.f161.body.getD .skip
def spec_l1Plain.P : Par := (.cons (.val .str) .nil)
noncomputable def spec_l1Plain.U : SumTab := [(132, [], spec_l1Ends.S)]
noncomputable def spec_l1Plain.E : Env := mkEnv TY AR spec_l1Plain.U
noncomputable def spec_l1Plain.T : Tab := fun k => look k []
def spec_l1Plain.R : List (Nat × Ty) := [(0, .str)]
def spec_l1Plain.X : List ResultVar := [.tmp 2]
noncomputable def spec_l1Plain.f (s : ByteArray) : Option (ByteArray) := Fn spec_l1Plain.E spec_l1Plain.T spec_l1Plain.C spec_l1Plain.P spec_l1Plain.R spec_l1Plain.X s
theorem spec_l1Plain.f_eq (s : ByteArray) : spec_l1Plain.f s =
  ((spec_l1Ends.f s).bind fun y1 =>
  bif y1 then (bif ((decide (0 ≤ (w64 ((s.size : Int) - 1)))) && (decide ((w64 ((s.size : Int) - 1)) ≤ (s.size : Int)))) then (some (s.extract 0 ((w64 ((s.size : Int) - 1))).toNat)) else none) else (some s)) := by kernel_rfl
noncomputable def spec_l1Plain.S : Abs.Sum := ⟨spec_l1Plain.P, spec_l1Plain.R, fun _ => Fn spec_l1Plain.E spec_l1Plain.T spec_l1Plain.C spec_l1Plain.P spec_l1Plain.R spec_l1Plain.X⟩
theorem spec_l1Plain.meets : Meets Try.prog 161 spec_l1Plain.S := meets_tab (S := spec_l1Plain.U) tabOk_all (AllMeets.cons spec_l1Ends.meets AllMeets.nil) (AllStill.cons (fun _ _ _ => rfl) AllStill.nil) follows (by kernel_rfl : Try.prog.funcs[161]? = some Try.f161) (by kernel_rfl) (by kernel_rfl) (by kernel_rfl)
noncomputable def spec_l1Cur_other.C : Code := Try.f123.body.getD .skip
def spec_l1Cur_other.P : Par := (.cons (.box 0 (.pair (.list (.int .u8)) (.pair (.int .i64) (.one (.int .u64))))) (.cons (.val (.list .str)) .nil))
noncomputable def spec_l1Cur_other.U : SumTab := [(106, [], spec_l1OwnT.S), (114, [], spec_l1Cur_pick.S), (132, [], spec_l1Ends.S), (159, [], spec_l1Cur_line.S), (160, [], spec_l1Whole.S), (122, [], spec_l1Cur_one.S), (161, [], spec_l1Plain.S)]
def spec_l1Cur_other.Z : List (Nat × List Nat) := [(8, [5]), (11, [5])]
noncomputable def spec_l1Cur_other.E : Env := mkEnvZ TY AR spec_l1Cur_other.U spec_l1Cur_other.Z
def spec_l1Cur_other.D6 : CutD := ⟨[0, 1, 5, 6], (.cons (.box 0 (.pair (.list (.int .u8)) (.pair (.int .i64) (.one (.int .u64))))) (.cons (.val (.list .str)) (.cons (.own 8 .str) (.cons (.val (.int .i64)) .nil))))⟩
def spec_l1Cur_other.D9 : CutD := ⟨[0, 1, 5, 6], (.cons (.box 0 (.pair (.list (.int .u8)) (.pair (.int .i64) (.one (.int .u64))))) (.cons (.val (.list .str)) (.cons (.own 8 .str) (.cons (.val (.int .i64)) .nil))))⟩
def spec_l1Cur_other.D43 : CutD := ⟨[0, 1, 5], (.cons (.box 0 (.pair (.list (.int .u8)) (.pair (.int .i64) (.one (.int .u64))))) (.cons (.val (.list .str)) (.cons (.own 8 .str) .nil)))⟩
noncomputable def spec_l1Cur_other.T : Tab := fun k => look k [(6, spec_l1Cur_other.D6), (9, spec_l1Cur_other.D9), (43, spec_l1Cur_other.D43)]
def spec_l1Cur_other.R : List (Nat × Ty) := [(9, .list .str)]
def spec_l1Cur_other.X : List ResultVar := [.tmp 4]
noncomputable def spec_l1Cur_other.K := fin spec_l1Cur_other.E ⟨spec_l1Cur_other.P, spec_l1Cur_other.R, fun _ _ => none⟩ spec_l1Cur_other.X spec_l1Cur_other.P.len 0
noncomputable def spec_l1Cur_other.l6 (c : (List Int) × Int × Int) (a : List ByteArray) (b : List ByteArray) (n : Int) : Option ((List ByteArray) × ((List Int) × Int × Int)) := fixP spec_l1Cur_other.E spec_l1Cur_other.T spec_l1Cur_other.C spec_l1Cur_other.K 6 spec_l1Cur_other.D6 (c, a, b, n)
noncomputable def spec_l1Cur_other.l9 (c : (List Int) × Int × Int) (a : List ByteArray) (b : List ByteArray) (n : Int) : Option ((List ByteArray) × ((List Int) × Int × Int)) := fixP spec_l1Cur_other.E spec_l1Cur_other.T spec_l1Cur_other.C spec_l1Cur_other.K 9 spec_l1Cur_other.D9 (c, a, b, n)
noncomputable def spec_l1Cur_other.l43 (c : (List Int) × Int × Int) (a : List ByteArray) (b : List ByteArray) : Option ((List ByteArray) × ((List Int) × Int × Int)) := fixP spec_l1Cur_other.E spec_l1Cur_other.T spec_l1Cur_other.C spec_l1Cur_other.K 43 spec_l1Cur_other.D43 (c, a, b)
noncomputable def spec_l1Cur_other.f (c : (List Int) × Int × Int) (a : List ByteArray) : Option ((List ByteArray) × ((List Int) × Int × Int)) := Fn spec_l1Cur_other.E spec_l1Cur_other.T spec_l1Cur_other.C spec_l1Cur_other.P spec_l1Cur_other.R spec_l1Cur_other.X (c, a)
theorem spec_l1Cur_other.l6_eq (c : (List Int) × Int × Int) (a : List ByteArray) (b : List ByteArray) (n : Int) : spec_l1Cur_other.l6 c a b n =
  (bif (decide (n > 0)) then ((spec_l1Cur_pick.f c (w64 ((b.length : Int) + 1))).bind fun y1 =>
   (spec_l1Cur_pick.f y1.2 3).bind fun y2 =>
   bif (decide (y2.1 = 0)) then (bif (decide (y1.1 < (b.length : Int))) then (bif ((decide (0 ≤ y1.1)) && (decide (y1.1 ≤ (b.length : Int)))) then ((spec_l1OwnT.f (b.take (y1.1).toNat)).bind fun y3 =>
      bif ((decide (0 ≤ (w64 (y1.1 + 1)))) && (decide ((w64 (y1.1 + 1)) ≤ (b.length : Int)))) then (bif (decide ((y3.length + (b.drop ((w64 (y1.1 + 1))).toNat).length) ≤ room 16)) then (spec_l1Cur_other.l9 y2.2 a (y3 ++ (b.drop ((w64 (y1.1 + 1))).toNat)) n) else none) else none) else none) else
    (spec_l1Cur_other.l9 y2.2 a b n)) else
   (bif (decide (y2.1 = 1)) then (bif (decide (y1.1 < (b.length : Int))) then (bif ((decide (0 ≤ y1.1)) && (decide (y1.1 < (b.length : Int)))) then ((spec_l1Ends.f (b.getD (y1.1).toNat em)).bind fun y3 =>
       bif y3 then ((spec_l1Cur_line.f y2.2).bind fun y4 =>
        bif (decide ((y4.1.size + (⟨#[10]⟩ : ByteArray).size) ≤ 9223372036854775807)) then (bif ((decide (0 ≤ y1.1)) && (decide (y1.1 < (b.length : Int)))) then (spec_l1Cur_other.l9 y4.2 a (b.set (y1.1).toNat (y4.1 ++ (⟨#[10]⟩ : ByteArray))) n) else none) else none) else
       (spec_l1Cur_other.l9 y2.2 a b n)) else none) else
     (spec_l1Cur_other.l9 y2.2 a b n)) else
    (bif (decide (y1.1 < (b.length : Int))) then (bif ((decide (0 ≤ y1.1)) && (decide (y1.1 ≤ (b.length : Int)))) then ((spec_l1OwnT.f (b.take (y1.1).toNat)).bind fun y3 =>
       (spec_l1Cur_line.f y2.2).bind fun y4 =>
       bif (decide ((y4.1.size + (⟨#[10]⟩ : ByteArray).size) ≤ 9223372036854775807)) then (bif (decide ((y3.length + [(y4.1 ++ (⟨#[10]⟩ : ByteArray))].length) ≤ room 16)) then (bif ((decide (0 ≤ y1.1)) && (decide (y1.1 ≤ (b.length : Int)))) then (bif (decide (((y3 ++ [(y4.1 ++ (⟨#[10]⟩ : ByteArray))]).length + (b.drop (y1.1).toNat).length) ≤ room 16)) then (spec_l1Cur_other.l9 y4.2 a ((y3 ++ [(y4.1 ++ (⟨#[10]⟩ : ByteArray))]) ++ (b.drop (y1.1).toNat)) n) else none) else none) else none) else none) else none) else
     ((spec_l1Whole.f b).bind fun y3 =>
      bif y3 then (bif ((decide (0 ≤ y1.1)) && (decide (y1.1 ≤ (b.length : Int)))) then ((spec_l1OwnT.f (b.take (y1.1).toNat)).bind fun y4 =>
        (spec_l1Cur_line.f y2.2).bind fun y5 =>
        bif (decide ((y5.1.size + (⟨#[10]⟩ : ByteArray).size) ≤ 9223372036854775807)) then (bif (decide ((y4.length + [(y5.1 ++ (⟨#[10]⟩ : ByteArray))].length) ≤ room 16)) then (bif ((decide (0 ≤ y1.1)) && (decide (y1.1 ≤ (b.length : Int)))) then (bif (decide (((y4 ++ [(y5.1 ++ (⟨#[10]⟩ : ByteArray))]).length + (b.drop (y1.1).toNat).length) ≤ room 16)) then (spec_l1Cur_other.l9 y5.2 a ((y4 ++ [(y5.1 ++ (⟨#[10]⟩ : ByteArray))]) ++ (b.drop (y1.1).toNat)) n) else none) else none) else none) else none) else none) else
      (spec_l1Cur_other.l9 y2.2 a b n))))) else
  (bif (decide ((b.length : Int) > 0)) then ((spec_l1Cur_one.f c 6).bind fun y1 =>
    bif y1.1 then (bif ((decide (0 ≤ (w64 ((b.length : Int) - 1)))) && (decide ((w64 ((b.length : Int) - 1)) < (b.length : Int)))) then ((spec_l1Plain.f (b.getD ((w64 ((b.length : Int) - 1))).toNat em)).bind fun y2 =>
      bif ((decide (0 ≤ (w64 ((b.length : Int) - 1)))) && (decide ((w64 ((b.length : Int) - 1)) < (b.length : Int)))) then ((spec_l1Ends.f (b.getD ((w64 ((b.length : Int) - 1))).toNat em)).bind fun y3 =>
       bif (!y3) then (bif (decide ((y2.size + (⟨#[10]⟩ : ByteArray).size) ≤ 9223372036854775807)) then (bif ((decide (0 ≤ (w64 ((b.length : Int) - 1)))) && (decide ((w64 ((b.length : Int) - 1)) < (b.length : Int)))) then (spec_l1Cur_other.l43 y1.2 a (b.set ((w64 ((b.length : Int) - 1))).toNat (y2 ++ (⟨#[10]⟩ : ByteArray)))) else none) else none) else
       (bif (!(y2.toList == em.toList)) then (bif ((decide (0 ≤ (w64 ((b.length : Int) - 1)))) && (decide ((w64 ((b.length : Int) - 1)) < (b.length : Int)))) then (spec_l1Cur_other.l43 y1.2 a (b.set ((w64 ((b.length : Int) - 1))).toNat y2)) else none) else
        (spec_l1Cur_other.l43 y1.2 a b))) else none) else none) else
    (spec_l1Cur_other.l43 y1.2 a b)) else
   (spec_l1Cur_other.l43 c a b))) :=
  (fixP_eq spec_l1Cur_other.E spec_l1Cur_other.T spec_l1Cur_other.C spec_l1Cur_other.K 6 spec_l1Cur_other.D6 (c, a, b, n)).trans (by kernel_rfl)
theorem spec_l1Cur_other.l9_eq (c : (List Int) × Int × Int) (a : List ByteArray) (b : List ByteArray) (n : Int) : spec_l1Cur_other.l9 c a b n =
  (spec_l1Cur_other.l6 c a b (w64 (n - 1))) :=
  (fixP_eq spec_l1Cur_other.E spec_l1Cur_other.T spec_l1Cur_other.C spec_l1Cur_other.K 9 spec_l1Cur_other.D9 (c, a, b, n)).trans (by kernel_rfl)
theorem spec_l1Cur_other.l43_eq (c : (List Int) × Int × Int) (a : List ByteArray) (b : List ByteArray) : spec_l1Cur_other.l43 c a b =
  (some (b, c)) :=
  (fixP_eq spec_l1Cur_other.E spec_l1Cur_other.T spec_l1Cur_other.C spec_l1Cur_other.K 43 spec_l1Cur_other.D43 (c, a, b)).trans (by kernel_rfl)
theorem spec_l1Cur_other.f_eq (c : (List Int) × Int × Int) (a : List ByteArray) : spec_l1Cur_other.f c a =
  ((spec_l1OwnT.f a).bind fun y1 =>
  (spec_l1Cur_pick.f c 4).bind fun y2 =>
  spec_l1Cur_other.l6 y2.2 a y1 y2.1) := by kernel_rfl
noncomputable def spec_l1Cur_other.S : Abs.Sum := ⟨spec_l1Cur_other.P, spec_l1Cur_other.R, fun _ => Fn spec_l1Cur_other.E spec_l1Cur_other.T spec_l1Cur_other.C spec_l1Cur_other.P spec_l1Cur_other.R spec_l1Cur_other.X⟩
theorem spec_l1Cur_other.meets : Meets Try.prog 123 spec_l1Cur_other.S := meets_tabZ spec_l1Cur_other.Z (S := spec_l1Cur_other.U) tabOk_all (AllMeets.cons spec_l1OwnT.meets (AllMeets.cons spec_l1Cur_pick.meets (AllMeets.cons spec_l1Ends.meets (AllMeets.cons spec_l1Cur_line.meets (AllMeets.cons spec_l1Whole.meets (AllMeets.cons spec_l1Cur_one.meets (AllMeets.cons spec_l1Plain.meets AllMeets.nil))))))) (AllStill.cons (fun _ _ _ => rfl) (AllStill.cons (fun _ _ _ => rfl) (AllStill.cons (fun _ _ _ => rfl) (AllStill.cons (fun _ _ _ => rfl) (AllStill.cons (fun _ _ _ => rfl) (AllStill.cons (fun _ _ _ => rfl) (AllStill.cons (fun _ _ _ => rfl) AllStill.nil))))))) follows (by kernel_rfl : Try.prog.funcs[123]? = some Try.f123) (by kernel_rfl) (by kernel_rfl) (by kernel_rfl)
noncomputable def spec_l1Cur_anyText.C : Code := Try.f121.body.getD .skip
def spec_l1Cur_anyText.P : Par := (.cons (.box 0 (.pair (.list (.int .u8)) (.pair (.int .i64) (.one (.int .u64))))) .nil)
noncomputable def spec_l1Cur_anyText.U : SumTab := [(152, [], spec_l1Cur_text.S), (114, [], spec_l1Cur_pick.S)]
noncomputable def spec_l1Cur_anyText.E : Env := mkEnv TY AR spec_l1Cur_anyText.U
noncomputable def spec_l1Cur_anyText.T : Tab := fun k => look k []
def spec_l1Cur_anyText.R : List (Nat × Ty) := [(9, .list .str)]
def spec_l1Cur_anyText.X : List ResultVar := [.tmp 2]
noncomputable def spec_l1Cur_anyText.f (c : (List Int) × Int × Int) : Option ((List ByteArray) × ((List Int) × Int × Int)) := Fn spec_l1Cur_anyText.E spec_l1Cur_anyText.T spec_l1Cur_anyText.C spec_l1Cur_anyText.P spec_l1Cur_anyText.R spec_l1Cur_anyText.X c
theorem spec_l1Cur_anyText.f_eq (c : (List Int) × Int × Int) : spec_l1Cur_anyText.f c =
  ((spec_l1Cur_text.f c).bind fun y70 =>
  bif (decide ((y70.1.length : Int) > 1)) then ((spec_l1Cur_pick.f y70.2 25).bind fun y71 =>
   bif (decide (y71.1 = 0)) then (bif (decide (0 < (y70.1.length : Int))) then (some ((y70.1.set 0 (⟨#[120]⟩ : ByteArray)), y71.2)) else none) else
   (bif (decide (y71.1 = 1)) then (bif (decide (0 < (y70.1.length : Int))) then (some ((y70.1.set 0 em), y71.2)) else none) else
    (bif (decide (y71.1 = 2)) then (bif (decide (0 < (y70.1.length : Int))) then (some ((y70.1.set 0 (⟨#[97, 10, 98, 10]⟩ : ByteArray)), y71.2)) else none) else (some (y70.1, y71.2))))) else (some (y70.1, y70.2))) := by kernel_rfl
noncomputable def spec_l1Cur_anyText.S : Abs.Sum := ⟨spec_l1Cur_anyText.P, spec_l1Cur_anyText.R, fun _ => Fn spec_l1Cur_anyText.E spec_l1Cur_anyText.T spec_l1Cur_anyText.C spec_l1Cur_anyText.P spec_l1Cur_anyText.R spec_l1Cur_anyText.X⟩
theorem spec_l1Cur_anyText.meets : Meets Try.prog 121 spec_l1Cur_anyText.S := meets_tab (S := spec_l1Cur_anyText.U) tabOk_all (AllMeets.cons spec_l1Cur_text.meets (AllMeets.cons spec_l1Cur_pick.meets AllMeets.nil)) (AllStill.cons (fun _ _ _ => rfl) (AllStill.cons (fun _ _ _ => rfl) AllStill.nil)) follows (by kernel_rfl : Try.prog.funcs[121]? = some Try.f121) (by kernel_rfl) (by kernel_rfl) (by kernel_rfl)
noncomputable def spec_DrawSameAhead.C : Code := Try.f115.body.getD .skip
def spec_DrawSameAhead.P : Par := (.cons (.val (.list (.int .u8))) .nil)
noncomputable def spec_DrawSameAhead.U : SumTab := [(121, [], spec_l1Cur_anyText.S), (122, [], spec_l1Cur_one.S), (75, [], spec_l1Good.S), (123, [], spec_l1Cur_other.S), (152, [], spec_l1Cur_text.S)]
def spec_DrawSameAhead.Z : List (Nat × List Nat) := [(4, [5])]
noncomputable def spec_DrawSameAhead.E : Env := mkEnvZ TY AR spec_DrawSameAhead.U spec_DrawSameAhead.Z
noncomputable def spec_DrawSameAhead.T : Tab := fun k => look k []
def spec_DrawSameAhead.R : List (Nat × Ty) := [(0, .list .str), (9, .list .str)]
def spec_DrawSameAhead.X : List ResultVar := [.tmp 2, .tmp 3]
noncomputable def spec_DrawSameAhead.f (code : List Int) : Option ((List ByteArray) × (List ByteArray)) := Fn spec_DrawSameAhead.E spec_DrawSameAhead.T spec_DrawSameAhead.C spec_DrawSameAhead.P spec_DrawSameAhead.R spec_DrawSameAhead.X code
theorem spec_DrawSameAhead.f_eq (code : List Int) : spec_DrawSameAhead.f code =
  ((spec_l1Cur_anyText.f (code, 0, 0)).bind fun y118 =>
  (spec_l1Cur_one.f y118.2 2).bind fun y119 =>
  bif y119.1 then ((spec_l1Good.f y118.1).bind fun y120 =>
   bif y120 then ((spec_l1Cur_other.f y119.2 y118.1).bind fun y121 =>
    some (y118.1, y121.1)) else
   ((spec_l1Cur_text.f y119.2).bind fun y121 =>
    some (y118.1, y121.1))) else
  ((spec_l1Cur_text.f y119.2).bind fun y120 =>
   some (y118.1, y120.1))) := by kernel_rfl
noncomputable def spec_DrawSameAhead.S : Abs.Sum := ⟨spec_DrawSameAhead.P, spec_DrawSameAhead.R, fun _ => Fn spec_DrawSameAhead.E spec_DrawSameAhead.T spec_DrawSameAhead.C spec_DrawSameAhead.P spec_DrawSameAhead.R spec_DrawSameAhead.X⟩
theorem spec_DrawSameAhead.meets : Meets Try.prog 115 spec_DrawSameAhead.S := meets_tabZ spec_DrawSameAhead.Z (S := spec_DrawSameAhead.U) tabOk_all (AllMeets.cons spec_l1Cur_anyText.meets (AllMeets.cons spec_l1Cur_one.meets (AllMeets.cons spec_l1Good.meets (AllMeets.cons spec_l1Cur_other.meets (AllMeets.cons spec_l1Cur_text.meets AllMeets.nil))))) (AllStill.cons (fun _ _ _ => rfl) (AllStill.cons (fun _ _ _ => rfl) (AllStill.cons (fun _ _ _ => rfl) (AllStill.cons (fun _ _ _ => rfl) (AllStill.cons (fun _ _ _ => rfl) AllStill.nil))))) follows (by kernel_rfl : Try.prog.funcs[115]? = some Try.f115) (by kernel_rfl) (by kernel_rfl) (by kernel_rfl)
noncomputable def spec_DrawDiffHunks.C : Code := Try.f61.body.getD .skip
def spec_DrawDiffHunks.P : Par := (.cons (.val (.list (.int .u8))) .nil)
noncomputable def spec_DrawDiffHunks.U : SumTab := [(115, [], spec_DrawSameAhead.S)]
noncomputable def spec_DrawDiffHunks.E : Env := mkEnv TY AR spec_DrawDiffHunks.U
noncomputable def spec_DrawDiffHunks.T : Tab := fun k => look k []
def spec_DrawDiffHunks.R : List (Nat × Ty) := [(0, .list .str), (9, .list .str)]
def spec_DrawDiffHunks.X : List ResultVar := [.tmp 2, .tmp 3]
noncomputable def spec_DrawDiffHunks.f (code : List Int) : Option ((List ByteArray) × (List ByteArray)) := Fn spec_DrawDiffHunks.E spec_DrawDiffHunks.T spec_DrawDiffHunks.C spec_DrawDiffHunks.P spec_DrawDiffHunks.R spec_DrawDiffHunks.X code
theorem spec_DrawDiffHunks.f_eq (code : List Int) : spec_DrawDiffHunks.f code =
  ((spec_DrawSameAhead.f code).bind fun y130 =>
  some (y130.1, y130.2)) := by kernel_rfl
noncomputable def spec_DrawDiffHunks.S : Abs.Sum := ⟨spec_DrawDiffHunks.P, spec_DrawDiffHunks.R, fun _ => Fn spec_DrawDiffHunks.E spec_DrawDiffHunks.T spec_DrawDiffHunks.C spec_DrawDiffHunks.P spec_DrawDiffHunks.R spec_DrawDiffHunks.X⟩
theorem spec_DrawDiffHunks.meets : Meets Try.prog 61 spec_DrawDiffHunks.S := meets_tab (S := spec_DrawDiffHunks.U) tabOk_all (AllMeets.cons spec_DrawSameAhead.meets AllMeets.nil) (AllStill.cons (fun _ _ _ => rfl) AllStill.nil) follows (by kernel_rfl : Try.prog.funcs[61]? = some Try.f61) (by kernel_rfl) (by kernel_rfl) (by kernel_rfl)
noncomputable def laws_sameTexts.C : Code := Try.f67.body.getD .skip
def laws_sameTexts.P : Par := (.cons (.val (.list .str)) (.cons (.val (.list .str)) .nil))
noncomputable def laws_sameTexts.U : SumTab := []
noncomputable def laws_sameTexts.E : Env := mkEnv TY AR laws_sameTexts.U
def laws_sameTexts.D8 : CutD := ⟨[0, 1, 12, 13], (.cons (.val (.list .str)) (.cons (.val (.list .str)) (.cons (.val (.int .i64)) (.cons (.val (.int .i64)) .nil))))⟩
noncomputable def laws_sameTexts.T : Tab := fun k => look k [(8, laws_sameTexts.D8)]
def laws_sameTexts.R : List (Nat × Ty) := [(0, .bool)]
def laws_sameTexts.X : List ResultVar := [.tmp 4]
noncomputable def laws_sameTexts.K := fin laws_sameTexts.E ⟨laws_sameTexts.P, laws_sameTexts.R, fun _ _ => none⟩ laws_sameTexts.X laws_sameTexts.P.len 0
noncomputable def laws_sameTexts.l8 (a : List ByteArray) (b : List ByteArray) (t12 : Int) (t13 : Int) : Option (Bool) := fixP laws_sameTexts.E laws_sameTexts.T laws_sameTexts.C laws_sameTexts.K 8 laws_sameTexts.D8 (a, b, t12, t13)
noncomputable def laws_sameTexts.f (a : List ByteArray) (b : List ByteArray) : Option (Bool) := Fn laws_sameTexts.E laws_sameTexts.T laws_sameTexts.C laws_sameTexts.P laws_sameTexts.R laws_sameTexts.X (a, b)
theorem laws_sameTexts.l8_eq (a : List ByteArray) (b : List ByteArray) (t12 : Int) (t13 : Int) : laws_sameTexts.l8 a b t12 t13 =
  (bif (decide (t13 < t12)) then (bif ((decide (0 ≤ t13)) && (decide (t13 < (a.length : Int)))) then (bif ((decide (0 ≤ t13)) && (decide (t13 < (b.length : Int)))) then (bif (!((a.getD (t13).toNat em).toList == (b.getD (t13).toNat em).toList)) then (some false) else
     (laws_sameTexts.l8 a b t12 (w64 (t13 + 1)))) else none) else none) else (some true)) :=
  (fixP_eq laws_sameTexts.E laws_sameTexts.T laws_sameTexts.C laws_sameTexts.K 8 laws_sameTexts.D8 (a, b, t12, t13)).trans (by kernel_rfl)
theorem laws_sameTexts.f_eq (a : List ByteArray) (b : List ByteArray) : laws_sameTexts.f a b =
  (bif (!(decide ((a.length : Int) = (b.length : Int)))) then (some false) else
  (laws_sameTexts.l8 a b (a.length : Int) 0)) := by kernel_rfl
noncomputable def laws_sameTexts.S : Abs.Sum := ⟨laws_sameTexts.P, laws_sameTexts.R, fun _ => Fn laws_sameTexts.E laws_sameTexts.T laws_sameTexts.C laws_sameTexts.P laws_sameTexts.R laws_sameTexts.X⟩
theorem laws_sameTexts.meets : Meets Try.prog 67 laws_sameTexts.S := meets_tab (S := laws_sameTexts.U) tabOk_all AllMeets.nil AllStill.nil follows (by kernel_rfl : Try.prog.funcs[67]? = some Try.f67) (by kernel_rfl) (by kernel_rfl) (by kernel_rfl)
noncomputable def laws_sameHunks.C : Code := Try.f62.body.getD .skip
def laws_sameHunks.P : Par := (.cons (.val (.list (.pair (.int .i64) (.pair (.int .i64) (.one (.list .str)))))) (.cons (.val (.list (.pair (.int .i64) (.pair (.int .i64) (.one (.list .str)))))) .nil))
noncomputable def laws_sameHunks.U : SumTab := [(67, [], laws_sameTexts.S)]
noncomputable def laws_sameHunks.E : Env := mkEnv TY AR laws_sameHunks.U
def laws_sameHunks.D8 : CutD := ⟨[1, 12, 13, 14], (.cons (.val (.list (.pair (.int .i64) (.pair (.int .i64) (.one (.list .str)))))) (.cons (.val (.list (.pair (.int .i64) (.pair (.int .i64) (.one (.list .str)))))) (.cons (.val (.int .i64)) (.cons (.val (.int .i64)) .nil))))⟩
noncomputable def laws_sameHunks.T : Tab := fun k => look k [(8, laws_sameHunks.D8)]
def laws_sameHunks.R : List (Nat × Ty) := [(0, .bool)]
def laws_sameHunks.X : List ResultVar := [.tmp 4]
noncomputable def laws_sameHunks.K := fin laws_sameHunks.E ⟨laws_sameHunks.P, laws_sameHunks.R, fun _ _ => none⟩ laws_sameHunks.X laws_sameHunks.P.len 0
noncomputable def laws_sameHunks.l8 (b : List (Int × Int × List ByteArray)) (t12 : List (Int × Int × List ByteArray)) (t13 : Int) (t14 : Int) : Option (Bool) := fixP laws_sameHunks.E laws_sameHunks.T laws_sameHunks.C laws_sameHunks.K 8 laws_sameHunks.D8 (b, t12, t13, t14)
noncomputable def laws_sameHunks.f (a : List (Int × Int × List ByteArray)) (b : List (Int × Int × List ByteArray)) : Option (Bool) := Fn laws_sameHunks.E laws_sameHunks.T laws_sameHunks.C laws_sameHunks.P laws_sameHunks.R laws_sameHunks.X (a, b)
theorem laws_sameHunks.l8_eq (b : List (Int × Int × List ByteArray)) (t12 : List (Int × Int × List ByteArray)) (t13 : Int) (t14 : Int) : laws_sameHunks.l8 b t12 t13 t14 =
  (bif (decide (t14 < t13)) then (bif ((decide (0 ≤ t14)) && (decide (t14 < (t12.length : Int)))) then (bif ((decide (0 ≤ t14)) && (decide (t14 < (b.length : Int)))) then (bif (!(decide ((t12.getD (t14).toNat (0, 0, ([] : List ByteArray))).1 = (b.getD (t14).toNat (0, 0, ([] : List ByteArray))).1))) then (some false) else
     (bif ((decide (0 ≤ t14)) && (decide (t14 < (b.length : Int)))) then (bif (!(decide ((t12.getD (t14).toNat (0, 0, ([] : List ByteArray))).2.1 = (b.getD (t14).toNat (0, 0, ([] : List ByteArray))).2.1))) then (some false) else
       (bif ((decide (0 ≤ t14)) && (decide (t14 < (b.length : Int)))) then ((laws_sameTexts.f (t12.getD (t14).toNat (0, 0, ([] : List ByteArray))).2.2 (b.getD (t14).toNat (0, 0, ([] : List ByteArray))).2.2).bind fun y130 =>
         bif (!y130) then (some false) else
         (laws_sameHunks.l8 b t12 t13 (w64 (t14 + 1)))) else none)) else none)) else none) else none) else (some true)) :=
  (fixP_eq laws_sameHunks.E laws_sameHunks.T laws_sameHunks.C laws_sameHunks.K 8 laws_sameHunks.D8 (b, t12, t13, t14)).trans (by kernel_rfl)
theorem laws_sameHunks.f_eq (a : List (Int × Int × List ByteArray)) (b : List (Int × Int × List ByteArray)) : laws_sameHunks.f a b =
  (bif (!(decide ((a.length : Int) = (b.length : Int)))) then (some false) else
  (laws_sameHunks.l8 b a (a.length : Int) 0)) := by kernel_rfl
noncomputable def laws_sameHunks.S : Abs.Sum := ⟨laws_sameHunks.P, laws_sameHunks.R, fun _ => Fn laws_sameHunks.E laws_sameHunks.T laws_sameHunks.C laws_sameHunks.P laws_sameHunks.R laws_sameHunks.X⟩
theorem laws_sameHunks.meets : Meets Try.prog 62 laws_sameHunks.S := meets_tab (S := laws_sameHunks.U) tabOk_all (AllMeets.cons laws_sameTexts.meets AllMeets.nil) (AllStill.cons (fun _ _ _ => rfl) AllStill.nil) follows (by kernel_rfl : Try.prog.funcs[62]? = some Try.f62) (by kernel_rfl) (by kernel_rfl) (by kernel_rfl)
noncomputable def impl_patched.C : Code := Try.f116.body.getD .skip
def impl_patched.P : Par := (.cons (.val (.list .str)) (.cons (.val (.list (.pair (.int .i64) (.pair (.int .i64) (.one (.list .str)))))) .nil))
noncomputable def impl_patched.U : SumTab := []
noncomputable def impl_patched.E : Env := mkEnv TY AR impl_patched.U
def impl_patched.D6 : CutD := ⟨[0, 5, 6, 10, 11, 12], (.cons (.val (.list .str)) (.cons (.own 9 .str) (.cons (.val (.int .i64)) (.cons (.val (.list (.pair (.int .i64) (.pair (.int .i64) (.one (.list .str)))))) (.cons (.val (.int .i64)) (.cons (.val (.int .i64)) .nil))))))⟩
noncomputable def impl_patched.T : Tab := fun k => look k [(6, impl_patched.D6)]
def impl_patched.R : List (Nat × Ty) := [(9, .list .str)]
def impl_patched.X : List ResultVar := [.tmp 4]
noncomputable def impl_patched.K := fin impl_patched.E ⟨impl_patched.P, impl_patched.R, fun _ _ => none⟩ impl_patched.X impl_patched.P.len 0
noncomputable def impl_patched.l6 (l : List ByteArray) (out : List ByteArray) (t6 : Int) (t10 : List (Int × Int × List ByteArray)) (t11 : Int) (t12 : Int) : Option ((List ByteArray)) := fixP impl_patched.E impl_patched.T impl_patched.C impl_patched.K 6 impl_patched.D6 (l, out, t6, t10, t11, t12)
noncomputable def impl_patched.f (l : List ByteArray) (h : List (Int × Int × List ByteArray)) : Option ((List ByteArray)) := Fn impl_patched.E impl_patched.T impl_patched.C impl_patched.P impl_patched.R impl_patched.X (l, h)
theorem impl_patched.l6_eq (l : List ByteArray) (out : List ByteArray) (t6 : Int) (t10 : List (Int × Int × List ByteArray)) (t11 : Int) (t12 : Int) : impl_patched.l6 l out t6 t10 t11 t12 =
  (bif (decide (t12 < t11)) then (bif ((decide (0 ≤ t12)) && (decide (t12 < (t10.length : Int)))) then (bif ((decide (0 ≤ t6)) && ((decide (t6 ≤ (t10.getD (t12).toNat (0, 0, ([] : List ByteArray))).1)) && (decide ((t10.getD (t12).toNat (0, 0, ([] : List ByteArray))).1 ≤ (l.length : Int))))) then (bif (decide ((out.length + ((l.take ((t10.getD (t12).toNat (0, 0, ([] : List ByteArray))).1).toNat).drop (t6).toNat).length) ≤ room 16)) then (bif (decide (((out ++ ((l.take ((t10.getD (t12).toNat (0, 0, ([] : List ByteArray))).1).toNat).drop (t6).toNat)).length + (t10.getD (t12).toNat (0, 0, ([] : List ByteArray))).2.2.length) ≤ room 16)) then (impl_patched.l6 l ((out ++ ((l.take ((t10.getD (t12).toNat (0, 0, ([] : List ByteArray))).1).toNat).drop (t6).toNat)) ++ (t10.getD (t12).toNat (0, 0, ([] : List ByteArray))).2.2) (w64 ((t10.getD (t12).toNat (0, 0, ([] : List ByteArray))).1 + (t10.getD (t12).toNat (0, 0, ([] : List ByteArray))).2.1)) t10 t11 (w64 (t12 + 1))) else none) else none) else none) else none) else
  (bif ((decide (0 ≤ t6)) && (decide (t6 ≤ (l.length : Int)))) then (bif (decide ((out.length + (l.drop (t6).toNat).length) ≤ room 16)) then (some (out ++ (l.drop (t6).toNat))) else none) else none)) :=
  (fixP_eq impl_patched.E impl_patched.T impl_patched.C impl_patched.K 6 impl_patched.D6 (l, out, t6, t10, t11, t12)).trans (by kernel_rfl)
theorem impl_patched.f_eq (l : List ByteArray) (h : List (Int × Int × List ByteArray)) : impl_patched.f l h =
  (impl_patched.l6 l ([] : List ByteArray) 0 h (h.length : Int) 0) := by kernel_rfl
noncomputable def impl_patched.S : Abs.Sum := ⟨impl_patched.P, impl_patched.R, fun _ => Fn impl_patched.E impl_patched.T impl_patched.C impl_patched.P impl_patched.R impl_patched.X⟩
theorem impl_patched.meets : Meets Try.prog 116 impl_patched.S := meets_tab (S := impl_patched.U) tabOk_all AllMeets.nil AllStill.nil follows (by kernel_rfl : Try.prog.funcs[116]? = some Try.f116) (by kernel_rfl) (by kernel_rfl) (by kernel_rfl)
noncomputable def impl_Patch.C : Code := Try.f63.body.getD .skip
def impl_Patch.P : Par := (.cons (.val (.list .str)) (.cons (.val (.list (.pair (.int .i64) (.pair (.int .i64) (.one (.list .str)))))) .nil))
noncomputable def impl_Patch.U : SumTab := [(78, [], impl_goodLines.S), (99, [], impl_goodHunks.S), (116, [], impl_patched.S)]
noncomputable def impl_Patch.E : Env := mkEnv TY AR impl_Patch.U
def impl_Patch.D7 : CutD := ⟨[0, 1], (.cons (.val (.list .str)) (.cons (.val (.list (.pair (.int .i64) (.pair (.int .i64) (.one (.list .str)))))) .nil))⟩
noncomputable def impl_Patch.T : Tab := fun k => look k [(7, impl_Patch.D7)]
def impl_Patch.R : List (Nat × Ty) := [(9, .list .str), (0, .bool)]
def impl_Patch.X : List ResultVar := [.tmp 4, .tmp 5]
noncomputable def impl_Patch.K := fin impl_Patch.E ⟨impl_Patch.P, impl_Patch.R, fun _ _ => none⟩ impl_Patch.X impl_Patch.P.len 0
noncomputable def impl_Patch.l7 (l : List ByteArray) (h : List (Int × Int × List ByteArray)) : Option ((List ByteArray) × Bool) := fixP impl_Patch.E impl_Patch.T impl_Patch.C impl_Patch.K 7 impl_Patch.D7 (l, h)
noncomputable def impl_Patch.f (l : List ByteArray) (h : List (Int × Int × List ByteArray)) : Option ((List ByteArray) × Bool) := Fn impl_Patch.E impl_Patch.T impl_Patch.C impl_Patch.P impl_Patch.R impl_Patch.X (l, h)
theorem impl_Patch.l7_eq (l : List ByteArray) (h : List (Int × Int × List ByteArray)) : impl_Patch.l7 l h =
  ((impl_patched.f l h).bind fun y130 =>
  (impl_goodLines.f y130).bind fun y131 =>
  bif (!y131) then (some (([] : List ByteArray), false)) else (some (y130, true))) :=
  (fixP_eq impl_Patch.E impl_Patch.T impl_Patch.C impl_Patch.K 7 impl_Patch.D7 (l, h)).trans (by kernel_rfl)
theorem impl_Patch.f_eq (l : List ByteArray) (h : List (Int × Int × List ByteArray)) : impl_Patch.f l h =
  ((impl_goodLines.f l).bind fun y130 =>
  bif (!y130) then (some (([] : List ByteArray), false)) else
  ((impl_goodHunks.f (l.length : Int) h).bind fun y131 =>
   bif (!y131) then (some (([] : List ByteArray), false)) else
   (impl_Patch.l7 l h))) := by kernel_rfl
noncomputable def impl_Patch.S : Abs.Sum := ⟨impl_Patch.P, impl_Patch.R, fun _ => Fn impl_Patch.E impl_Patch.T impl_Patch.C impl_Patch.P impl_Patch.R impl_Patch.X⟩
theorem impl_Patch.meets : Meets Try.prog 63 impl_Patch.S := meets_tab (S := impl_Patch.U) tabOk_all (AllMeets.cons impl_goodLines.meets (AllMeets.cons impl_goodHunks.meets (AllMeets.cons impl_patched.meets AllMeets.nil))) (AllStill.cons (fun _ _ _ => rfl) (AllStill.cons (fun _ _ _ => rfl) (AllStill.cons (fun _ _ _ => rfl) AllStill.nil))) follows (by kernel_rfl : Try.prog.funcs[63]? = some Try.f63) (by kernel_rfl) (by kernel_rfl) (by kernel_rfl)
noncomputable def impl_counts.C : Code := Try.f117.body.getD .skip
def impl_counts.P : Par := (.cons (.val (.list (.pair (.int .i64) (.pair (.int .i64) (.one (.list .str)))))) .nil)
noncomputable def impl_counts.U : SumTab := []
noncomputable def impl_counts.E : Env := mkEnv TY AR impl_counts.U
def impl_counts.D6 : CutD := ⟨[4, 5, 8, 9, 10], (.cons (.val (.int .i64)) (.cons (.val (.int .i64)) (.cons (.val (.list (.pair (.int .i64) (.pair (.int .i64) (.one (.list .str)))))) (.cons (.val (.int .i64)) (.cons (.val (.int .i64)) .nil)))))⟩
noncomputable def impl_counts.T : Tab := fun k => look k [(6, impl_counts.D6)]
def impl_counts.R : List (Nat × Ty) := [(0, .int .i64), (0, .int .i64)]
def impl_counts.X : List ResultVar := [.tmp 2, .tmp 3]
noncomputable def impl_counts.K := fin impl_counts.E ⟨impl_counts.P, impl_counts.R, fun _ _ => none⟩ impl_counts.X impl_counts.P.len 0
noncomputable def impl_counts.l6 (gone : Int) (come : Int) (t8 : List (Int × Int × List ByteArray)) (t9 : Int) (t10 : Int) : Option (Int × Int) := fixP impl_counts.E impl_counts.T impl_counts.C impl_counts.K 6 impl_counts.D6 (gone, come, t8, t9, t10)
noncomputable def impl_counts.f (h : List (Int × Int × List ByteArray)) : Option (Int × Int) := Fn impl_counts.E impl_counts.T impl_counts.C impl_counts.P impl_counts.R impl_counts.X h
theorem impl_counts.l6_eq (gone : Int) (come : Int) (t8 : List (Int × Int × List ByteArray)) (t9 : Int) (t10 : Int) : impl_counts.l6 gone come t8 t9 t10 =
  (bif (decide (t10 < t9)) then (bif ((decide (0 ≤ t10)) && (decide (t10 < (t8.length : Int)))) then (impl_counts.l6 (w64 (gone + (t8.getD (t10).toNat (0, 0, ([] : List ByteArray))).2.1)) (w64 (come + ((t8.getD (t10).toNat (0, 0, ([] : List ByteArray))).2.2.length : Int))) t8 t9 (w64 (t10 + 1))) else none) else (some (gone, come))) :=
  (fixP_eq impl_counts.E impl_counts.T impl_counts.C impl_counts.K 6 impl_counts.D6 (gone, come, t8, t9, t10)).trans (by kernel_rfl)
theorem impl_counts.f_eq (h : List (Int × Int × List ByteArray)) : impl_counts.f h =
  (impl_counts.l6 0 0 h (h.length : Int) 0) := by kernel_rfl
noncomputable def impl_counts.S : Abs.Sum := ⟨impl_counts.P, impl_counts.R, fun _ => Fn impl_counts.E impl_counts.T impl_counts.C impl_counts.P impl_counts.R impl_counts.X⟩
theorem impl_counts.meets : Meets Try.prog 117 impl_counts.S := meets_tab (S := impl_counts.U) tabOk_all AllMeets.nil AllStill.nil follows (by kernel_rfl : Try.prog.funcs[117]? = some Try.f117) (by kernel_rfl) (by kernel_rfl) (by kernel_rfl)
noncomputable def impl_farApart.C : Code := Try.f118.body.getD .skip
def impl_farApart.P : Par := (.cons (.val (.list .str)) (.cons (.val (.list .str)) .nil))
noncomputable def impl_farApart.U : SumTab := [(157, [], impl_common.S)]
noncomputable def impl_farApart.E : Env := mkEnv TY AR impl_farApart.U
noncomputable def impl_farApart.T : Tab := fun k => look k []
def impl_farApart.R : List (Nat × Ty) := [(0, .int .i64)]
def impl_farApart.X : List ResultVar := [.tmp 4]
noncomputable def impl_farApart.f (a : List ByteArray) (b : List ByteArray) : Option (Int) := Fn impl_farApart.E impl_farApart.T impl_farApart.C impl_farApart.P impl_farApart.R impl_farApart.X (a, b)
theorem impl_farApart.f_eq (a : List ByteArray) (b : List ByteArray) : impl_farApart.f a b =
  ((impl_common.f a b).bind fun y130 =>
  bif (decide (0 < (y130.length : Int))) then (bif (decide (0 < ((y130.getD 0 ([] : List Int)).length : Int))) then (some (w64 ((w64 ((a.length : Int) + (b.length : Int))) - (w64 (2 * ((y130.getD 0 ([] : List Int)).getD 0 0)))))) else none) else none) := by kernel_rfl
noncomputable def impl_farApart.S : Abs.Sum := ⟨impl_farApart.P, impl_farApart.R, fun _ => Fn impl_farApart.E impl_farApart.T impl_farApart.C impl_farApart.P impl_farApart.R impl_farApart.X⟩
theorem impl_farApart.meets : Meets Try.prog 118 impl_farApart.S := meets_tab (S := impl_farApart.U) tabOk_all (AllMeets.cons impl_common.meets AllMeets.nil) (AllStill.cons (fun _ _ _ => rfl) AllStill.nil) follows (by kernel_rfl : Try.prog.funcs[118]? = some Try.f118) (by kernel_rfl) (by kernel_rfl) (by kernel_rfl)
noncomputable def impl_IsLeast.C : Code := Try.f64.body.getD .skip
def impl_IsLeast.P : Par := (.cons (.val (.list .str)) (.cons (.val (.list (.pair (.int .i64) (.pair (.int .i64) (.one (.list .str)))))) .nil))
noncomputable def impl_IsLeast.U : SumTab := [(63, [], impl_Patch.S), (117, [], impl_counts.S), (118, [], impl_farApart.S)]
noncomputable def impl_IsLeast.E : Env := mkEnv TY AR impl_IsLeast.U
noncomputable def impl_IsLeast.T : Tab := fun k => look k []
def impl_IsLeast.R : List (Nat × Ty) := [(0, .bool), (0, .bool)]
def impl_IsLeast.X : List ResultVar := [.tmp 4, .tmp 5]
noncomputable def impl_IsLeast.f (a : List ByteArray) (h : List (Int × Int × List ByteArray)) : Option (Bool × Bool) := Fn impl_IsLeast.E impl_IsLeast.T impl_IsLeast.C impl_IsLeast.P impl_IsLeast.R impl_IsLeast.X (a, h)
theorem impl_IsLeast.f_eq (a : List ByteArray) (h : List (Int × Int × List ByteArray)) : impl_IsLeast.f a h =
  ((impl_Patch.f a h).bind fun y130 =>
  bif (!y130.2) then (some (false, false)) else
  ((impl_counts.f h).bind fun y131 =>
   (impl_farApart.f a y130.1).bind fun y132 =>
   some ((decide ((w64 (y131.1 + y131.2)) = y132)), true))) := by kernel_rfl
noncomputable def impl_IsLeast.S : Abs.Sum := ⟨impl_IsLeast.P, impl_IsLeast.R, fun _ => Fn impl_IsLeast.E impl_IsLeast.T impl_IsLeast.C impl_IsLeast.P impl_IsLeast.R impl_IsLeast.X⟩
theorem impl_IsLeast.meets : Meets Try.prog 64 impl_IsLeast.S := meets_tab (S := impl_IsLeast.U) tabOk_all (AllMeets.cons impl_Patch.meets (AllMeets.cons impl_counts.meets (AllMeets.cons impl_farApart.meets AllMeets.nil))) (AllStill.cons (fun _ _ _ => rfl) (AllStill.cons (fun _ _ _ => rfl) (AllStill.cons (fun _ _ _ => rfl) AllStill.nil))) follows (by kernel_rfl : Try.prog.funcs[64]? = some Try.f64) (by kernel_rfl) (by kernel_rfl) (by kernel_rfl)
noncomputable def impl_FarApart.C : Code := Try.f65.body.getD .skip
def impl_FarApart.P : Par := (.cons (.val (.list .str)) (.cons (.val (.list .str)) .nil))
noncomputable def impl_FarApart.U : SumTab := [(78, [], impl_goodLines.S), (118, [], impl_farApart.S)]
noncomputable def impl_FarApart.E : Env := mkEnv TY AR impl_FarApart.U
noncomputable def impl_FarApart.T : Tab := fun k => look k []
def impl_FarApart.R : List (Nat × Ty) := [(0, .int .i64), (0, .bool)]
def impl_FarApart.X : List ResultVar := [.tmp 4, .tmp 5]
noncomputable def impl_FarApart.f (a : List ByteArray) (b : List ByteArray) : Option (Int × Bool) := Fn impl_FarApart.E impl_FarApart.T impl_FarApart.C impl_FarApart.P impl_FarApart.R impl_FarApart.X (a, b)
theorem impl_FarApart.f_eq (a : List ByteArray) (b : List ByteArray) : impl_FarApart.f a b =
  ((impl_goodLines.f a).bind fun y130 =>
  bif (!y130) then (some (0, false)) else
  ((impl_goodLines.f b).bind fun y131 =>
   bif (!y131) then (some (0, false)) else
   ((impl_farApart.f a b).bind fun y132 =>
    some (y132, true)))) := by kernel_rfl
noncomputable def impl_FarApart.S : Abs.Sum := ⟨impl_FarApart.P, impl_FarApart.R, fun _ => Fn impl_FarApart.E impl_FarApart.T impl_FarApart.C impl_FarApart.P impl_FarApart.R impl_FarApart.X⟩
theorem impl_FarApart.meets : Meets Try.prog 65 impl_FarApart.S := meets_tab (S := impl_FarApart.U) tabOk_all (AllMeets.cons impl_goodLines.meets (AllMeets.cons impl_farApart.meets AllMeets.nil)) (AllStill.cons (fun _ _ _ => rfl) (AllStill.cons (fun _ _ _ => rfl) AllStill.nil)) follows (by kernel_rfl : Try.prog.funcs[65]? = some Try.f65) (by kernel_rfl) (by kernel_rfl) (by kernel_rfl)
noncomputable def impl_CountHunks_1.C : Code := Try.f120.body.getD .skip
def impl_CountHunks_1.P : Par := (.cons (.val (.pair (.int .i64) (.pair (.int .i64) (.one (.list .str))))) .nil)
noncomputable def impl_CountHunks_1.U : SumTab := []
noncomputable def impl_CountHunks_1.E : Env := mkEnv TY AR impl_CountHunks_1.U
noncomputable def impl_CountHunks_1.T : Tab := fun k => look k []
def impl_CountHunks_1.R : List (Nat × Ty) := [(0, .bool)]
def impl_CountHunks_1.X : List ResultVar := [.tmp 2]
noncomputable def impl_CountHunks_1.f (x : Int × Int × List ByteArray) : Option (Bool) := Fn impl_CountHunks_1.E impl_CountHunks_1.T impl_CountHunks_1.C impl_CountHunks_1.P impl_CountHunks_1.R impl_CountHunks_1.X x
theorem impl_CountHunks_1.f_eq (x : Int × Int × List ByteArray) : impl_CountHunks_1.f x =
  (some (decide (x.2.1 < 0))) := by kernel_rfl
noncomputable def impl_CountHunks_1.S : Abs.Sum := ⟨impl_CountHunks_1.P, impl_CountHunks_1.R, fun _ => Fn impl_CountHunks_1.E impl_CountHunks_1.T impl_CountHunks_1.C impl_CountHunks_1.P impl_CountHunks_1.R impl_CountHunks_1.X⟩
theorem impl_CountHunks_1.meets : Meets Try.prog 120 impl_CountHunks_1.S := meets_tab (S := impl_CountHunks_1.U) tabOk_all AllMeets.nil AllStill.nil follows (by kernel_rfl : Try.prog.funcs[120]? = some Try.f120) (by kernel_rfl) (by kernel_rfl) (by kernel_rfl)
noncomputable def slices_IndexFunc_Limpl_Hunk_impl_Hunk__impl_CountHunks_1.C : Code := Try.f158.body.getD .skip
def slices_IndexFunc_Limpl_Hunk_impl_Hunk__impl_CountHunks_1.P : Par := (.cons (.val (.list (.pair (.int .i64) (.pair (.int .i64) (.one (.list .str)))))) (.cons (.fn 120 .nil) .nil))
noncomputable def slices_IndexFunc_Limpl_Hunk_impl_Hunk__impl_CountHunks_1.U : SumTab := [(120, [], impl_CountHunks_1.S)]
noncomputable def slices_IndexFunc_Limpl_Hunk_impl_Hunk__impl_CountHunks_1.E : Env := mkEnv TY AR slices_IndexFunc_Limpl_Hunk_impl_Hunk__impl_CountHunks_1.U
def slices_IndexFunc_Limpl_Hunk_impl_Hunk__impl_CountHunks_1.D4 : CutD := ⟨[0, 1, 7, 8], (.cons (.val (.list (.pair (.int .i64) (.pair (.int .i64) (.one (.list .str)))))) (.cons (.fn 120 .nil) (.cons (.val (.int .i64)) (.cons (.val (.int .i64)) .nil))))⟩
noncomputable def slices_IndexFunc_Limpl_Hunk_impl_Hunk__impl_CountHunks_1.T : Tab := fun k => look k [(4, slices_IndexFunc_Limpl_Hunk_impl_Hunk__impl_CountHunks_1.D4)]
def slices_IndexFunc_Limpl_Hunk_impl_Hunk__impl_CountHunks_1.R : List (Nat × Ty) := [(0, .int .i64)]
def slices_IndexFunc_Limpl_Hunk_impl_Hunk__impl_CountHunks_1.X : List ResultVar := [.tmp 4]
noncomputable def slices_IndexFunc_Limpl_Hunk_impl_Hunk__impl_CountHunks_1.K := fin slices_IndexFunc_Limpl_Hunk_impl_Hunk__impl_CountHunks_1.E ⟨slices_IndexFunc_Limpl_Hunk_impl_Hunk__impl_CountHunks_1.P, slices_IndexFunc_Limpl_Hunk_impl_Hunk__impl_CountHunks_1.R, fun _ _ => none⟩ slices_IndexFunc_Limpl_Hunk_impl_Hunk__impl_CountHunks_1.X slices_IndexFunc_Limpl_Hunk_impl_Hunk__impl_CountHunks_1.P.len 0
noncomputable def slices_IndexFunc_Limpl_Hunk_impl_Hunk__impl_CountHunks_1.l4 (s : List (Int × Int × List ByteArray)) (t7 : Int) (t8 : Int) : Option (Int) := fixP slices_IndexFunc_Limpl_Hunk_impl_Hunk__impl_CountHunks_1.E slices_IndexFunc_Limpl_Hunk_impl_Hunk__impl_CountHunks_1.T slices_IndexFunc_Limpl_Hunk_impl_Hunk__impl_CountHunks_1.C slices_IndexFunc_Limpl_Hunk_impl_Hunk__impl_CountHunks_1.K 4 slices_IndexFunc_Limpl_Hunk_impl_Hunk__impl_CountHunks_1.D4 (s, t7, t8)
noncomputable def slices_IndexFunc_Limpl_Hunk_impl_Hunk__impl_CountHunks_1.f (s : List (Int × Int × List ByteArray)) : Option (Int) := Fn slices_IndexFunc_Limpl_Hunk_impl_Hunk__impl_CountHunks_1.E slices_IndexFunc_Limpl_Hunk_impl_Hunk__impl_CountHunks_1.T slices_IndexFunc_Limpl_Hunk_impl_Hunk__impl_CountHunks_1.C slices_IndexFunc_Limpl_Hunk_impl_Hunk__impl_CountHunks_1.P slices_IndexFunc_Limpl_Hunk_impl_Hunk__impl_CountHunks_1.R slices_IndexFunc_Limpl_Hunk_impl_Hunk__impl_CountHunks_1.X s
theorem slices_IndexFunc_Limpl_Hunk_impl_Hunk__impl_CountHunks_1.l4_eq (s : List (Int × Int × List ByteArray)) (t7 : Int) (t8 : Int) : slices_IndexFunc_Limpl_Hunk_impl_Hunk__impl_CountHunks_1.l4 s t7 t8 =
  (bif (decide (t8 < t7)) then (bif ((decide (0 ≤ t8)) && (decide (t8 < (s.length : Int)))) then ((impl_CountHunks_1.f (s.getD (t8).toNat (0, 0, ([] : List ByteArray)))).bind fun y130 =>
    bif y130 then (some t8) else
    (slices_IndexFunc_Limpl_Hunk_impl_Hunk__impl_CountHunks_1.l4 s t7 (w64 (t8 + 1)))) else none) else (some (-1))) :=
  (fixP_eq slices_IndexFunc_Limpl_Hunk_impl_Hunk__impl_CountHunks_1.E slices_IndexFunc_Limpl_Hunk_impl_Hunk__impl_CountHunks_1.T slices_IndexFunc_Limpl_Hunk_impl_Hunk__impl_CountHunks_1.C slices_IndexFunc_Limpl_Hunk_impl_Hunk__impl_CountHunks_1.K 4 slices_IndexFunc_Limpl_Hunk_impl_Hunk__impl_CountHunks_1.D4 (s, t7, t8)).trans (by kernel_rfl)
theorem slices_IndexFunc_Limpl_Hunk_impl_Hunk__impl_CountHunks_1.f_eq (s : List (Int × Int × List ByteArray)) : slices_IndexFunc_Limpl_Hunk_impl_Hunk__impl_CountHunks_1.f s =
  (slices_IndexFunc_Limpl_Hunk_impl_Hunk__impl_CountHunks_1.l4 s (s.length : Int) 0) := by kernel_rfl
noncomputable def slices_IndexFunc_Limpl_Hunk_impl_Hunk__impl_CountHunks_1.S : Abs.Sum := ⟨slices_IndexFunc_Limpl_Hunk_impl_Hunk__impl_CountHunks_1.P, slices_IndexFunc_Limpl_Hunk_impl_Hunk__impl_CountHunks_1.R, fun _ => Fn slices_IndexFunc_Limpl_Hunk_impl_Hunk__impl_CountHunks_1.E slices_IndexFunc_Limpl_Hunk_impl_Hunk__impl_CountHunks_1.T slices_IndexFunc_Limpl_Hunk_impl_Hunk__impl_CountHunks_1.C slices_IndexFunc_Limpl_Hunk_impl_Hunk__impl_CountHunks_1.P slices_IndexFunc_Limpl_Hunk_impl_Hunk__impl_CountHunks_1.R slices_IndexFunc_Limpl_Hunk_impl_Hunk__impl_CountHunks_1.X⟩
theorem slices_IndexFunc_Limpl_Hunk_impl_Hunk__impl_CountHunks_1.meets : Meets Try.prog 158 slices_IndexFunc_Limpl_Hunk_impl_Hunk__impl_CountHunks_1.S := meets_tab (S := slices_IndexFunc_Limpl_Hunk_impl_Hunk__impl_CountHunks_1.U) tabOk_all (AllMeets.cons impl_CountHunks_1.meets AllMeets.nil) (AllStill.cons (fun _ _ _ => rfl) AllStill.nil) follows (by kernel_rfl : Try.prog.funcs[158]? = some Try.f158) (by kernel_rfl) (by kernel_rfl) (by kernel_rfl)
noncomputable def slices_ContainsFunc_Limpl_Hunk_impl_Hunk__impl_CountHunks_1.C : Code := Try.f119.body.getD .skip
def slices_ContainsFunc_Limpl_Hunk_impl_Hunk__impl_CountHunks_1.P : Par := (.cons (.val (.list (.pair (.int .i64) (.pair (.int .i64) (.one (.list .str)))))) (.cons (.fn 120 .nil) .nil))
noncomputable def slices_ContainsFunc_Limpl_Hunk_impl_Hunk__impl_CountHunks_1.U : SumTab := [(158, [120], slices_IndexFunc_Limpl_Hunk_impl_Hunk__impl_CountHunks_1.S)]
noncomputable def slices_ContainsFunc_Limpl_Hunk_impl_Hunk__impl_CountHunks_1.E : Env := mkEnv TY AR slices_ContainsFunc_Limpl_Hunk_impl_Hunk__impl_CountHunks_1.U
noncomputable def slices_ContainsFunc_Limpl_Hunk_impl_Hunk__impl_CountHunks_1.T : Tab := fun k => look k []
def slices_ContainsFunc_Limpl_Hunk_impl_Hunk__impl_CountHunks_1.R : List (Nat × Ty) := [(0, .bool)]
def slices_ContainsFunc_Limpl_Hunk_impl_Hunk__impl_CountHunks_1.X : List ResultVar := [.tmp 4]
noncomputable def slices_ContainsFunc_Limpl_Hunk_impl_Hunk__impl_CountHunks_1.f (s : List (Int × Int × List ByteArray)) : Option (Bool) := Fn slices_ContainsFunc_Limpl_Hunk_impl_Hunk__impl_CountHunks_1.E slices_ContainsFunc_Limpl_Hunk_impl_Hunk__impl_CountHunks_1.T slices_ContainsFunc_Limpl_Hunk_impl_Hunk__impl_CountHunks_1.C slices_ContainsFunc_Limpl_Hunk_impl_Hunk__impl_CountHunks_1.P slices_ContainsFunc_Limpl_Hunk_impl_Hunk__impl_CountHunks_1.R slices_ContainsFunc_Limpl_Hunk_impl_Hunk__impl_CountHunks_1.X s
theorem slices_ContainsFunc_Limpl_Hunk_impl_Hunk__impl_CountHunks_1.f_eq (s : List (Int × Int × List ByteArray)) : slices_ContainsFunc_Limpl_Hunk_impl_Hunk__impl_CountHunks_1.f s =
  ((slices_IndexFunc_Limpl_Hunk_impl_Hunk__impl_CountHunks_1.f s).bind fun y130 =>
  some (decide (y130 ≥ 0))) := by kernel_rfl
noncomputable def slices_ContainsFunc_Limpl_Hunk_impl_Hunk__impl_CountHunks_1.S : Abs.Sum := ⟨slices_ContainsFunc_Limpl_Hunk_impl_Hunk__impl_CountHunks_1.P, slices_ContainsFunc_Limpl_Hunk_impl_Hunk__impl_CountHunks_1.R, fun _ => Fn slices_ContainsFunc_Limpl_Hunk_impl_Hunk__impl_CountHunks_1.E slices_ContainsFunc_Limpl_Hunk_impl_Hunk__impl_CountHunks_1.T slices_ContainsFunc_Limpl_Hunk_impl_Hunk__impl_CountHunks_1.C slices_ContainsFunc_Limpl_Hunk_impl_Hunk__impl_CountHunks_1.P slices_ContainsFunc_Limpl_Hunk_impl_Hunk__impl_CountHunks_1.R slices_ContainsFunc_Limpl_Hunk_impl_Hunk__impl_CountHunks_1.X⟩
theorem slices_ContainsFunc_Limpl_Hunk_impl_Hunk__impl_CountHunks_1.meets : Meets Try.prog 119 slices_ContainsFunc_Limpl_Hunk_impl_Hunk__impl_CountHunks_1.S := meets_tab (S := slices_ContainsFunc_Limpl_Hunk_impl_Hunk__impl_CountHunks_1.U) tabOk_all (AllMeets.cons slices_IndexFunc_Limpl_Hunk_impl_Hunk__impl_CountHunks_1.meets AllMeets.nil) (AllStill.cons (fun _ _ _ => rfl) AllStill.nil) follows (by kernel_rfl : Try.prog.funcs[119]? = some Try.f119) (by kernel_rfl) (by kernel_rfl) (by kernel_rfl)
noncomputable def impl_CountHunks.C : Code := Try.f66.body.getD .skip
def impl_CountHunks.P : Par := (.cons (.val (.list (.pair (.int .i64) (.pair (.int .i64) (.one (.list .str)))))) .nil)
noncomputable def impl_CountHunks.U : SumTab := [(119, [120], slices_ContainsFunc_Limpl_Hunk_impl_Hunk__impl_CountHunks_1.S), (117, [], impl_counts.S)]
noncomputable def impl_CountHunks.E : Env := mkEnv TY AR impl_CountHunks.U
def impl_CountHunks.D7 : CutD := ⟨[0], (.cons (.val (.list (.pair (.int .i64) (.pair (.int .i64) (.one (.list .str)))))) .nil)⟩
noncomputable def impl_CountHunks.T : Tab := fun k => look k [(7, impl_CountHunks.D7)]
def impl_CountHunks.R : List (Nat × Ty) := [(0, .int .i64), (0, .int .i64), (0, .bool)]
def impl_CountHunks.X : List ResultVar := [.tmp 2, .tmp 3, .tmp 4]
noncomputable def impl_CountHunks.K := fin impl_CountHunks.E ⟨impl_CountHunks.P, impl_CountHunks.R, fun _ _ => none⟩ impl_CountHunks.X impl_CountHunks.P.len 0
noncomputable def impl_CountHunks.l7 (h : List (Int × Int × List ByteArray)) : Option (Int × Int × Bool) := fixP impl_CountHunks.E impl_CountHunks.T impl_CountHunks.C impl_CountHunks.K 7 impl_CountHunks.D7 h
noncomputable def impl_CountHunks.f (h : List (Int × Int × List ByteArray)) : Option (Int × Int × Bool) := Fn impl_CountHunks.E impl_CountHunks.T impl_CountHunks.C impl_CountHunks.P impl_CountHunks.R impl_CountHunks.X h
theorem impl_CountHunks.l7_eq (h : List (Int × Int × List ByteArray)) : impl_CountHunks.l7 h =
  ((impl_counts.f h).bind fun y130 =>
  some (y130.1, y130.2, true)) :=
  (fixP_eq impl_CountHunks.E impl_CountHunks.T impl_CountHunks.C impl_CountHunks.K 7 impl_CountHunks.D7 h).trans (by kernel_rfl)
theorem impl_CountHunks.f_eq (h : List (Int × Int × List ByteArray)) : impl_CountHunks.f h =
  (bif (decide ((h.length : Int) > 20)) then (some (0, 0, false)) else
  ((slices_ContainsFunc_Limpl_Hunk_impl_Hunk__impl_CountHunks_1.f h).bind fun y130 =>
   bif y130 then (some (0, 0, false)) else
   (impl_CountHunks.l7 h))) := by kernel_rfl
noncomputable def impl_CountHunks.S : Abs.Sum := ⟨impl_CountHunks.P, impl_CountHunks.R, fun _ => Fn impl_CountHunks.E impl_CountHunks.T impl_CountHunks.C impl_CountHunks.P impl_CountHunks.R impl_CountHunks.X⟩
theorem impl_CountHunks.meets : Meets Try.prog 66 impl_CountHunks.S := meets_tab (S := impl_CountHunks.U) tabOk_all (AllMeets.cons slices_ContainsFunc_Limpl_Hunk_impl_Hunk__impl_CountHunks_1.meets (AllMeets.cons impl_counts.meets AllMeets.nil)) (AllStill.cons (fun _ _ _ => rfl) (AllStill.cons (fun _ _ _ => rfl) AllStill.nil)) follows (by kernel_rfl : Try.prog.funcs[66]? = some Try.f66) (by kernel_rfl) (by kernel_rfl) (by kernel_rfl)
noncomputable def spec_l1Cur_anyHunks.C : Code := Try.f124.body.getD .skip
def spec_l1Cur_anyHunks.P : Par := (.cons (.box 0 (.pair (.list (.int .u8)) (.pair (.int .i64) (.one (.int .u64))))) (.cons (.val (.list .str)) .nil))
noncomputable def spec_l1Cur_anyHunks.U : SumTab := [(154, [], spec_l1Cur_hunks.S), (114, [], spec_l1Cur_pick.S), (129, [], spec_l1Cur_among.S)]
def spec_l1Cur_anyHunks.Z : List (Nat × List Nat) := [(1, [1])]
noncomputable def spec_l1Cur_anyHunks.E : Env := mkEnvZ TY AR spec_l1Cur_anyHunks.U spec_l1Cur_anyHunks.Z
noncomputable def spec_l1Cur_anyHunks.T : Tab := fun k => look k []
def spec_l1Cur_anyHunks.R : List (Nat × Ty) := [(9, .list (.pair (.int .i64) (.pair (.int .i64) (.one (.list .str)))))]
def spec_l1Cur_anyHunks.X : List ResultVar := [.tmp 4]
noncomputable def spec_l1Cur_anyHunks.f (c : (List Int) × Int × Int) (l : List ByteArray) : Option ((List (Int × Int × List ByteArray)) × ((List Int) × Int × Int)) := Fn spec_l1Cur_anyHunks.E spec_l1Cur_anyHunks.T spec_l1Cur_anyHunks.C spec_l1Cur_anyHunks.P spec_l1Cur_anyHunks.R spec_l1Cur_anyHunks.X (c, l)
theorem spec_l1Cur_anyHunks.f_eq (c : (List Int) × Int × Int) (l : List ByteArray) : spec_l1Cur_anyHunks.f c l =
  ((spec_l1Cur_hunks.f c l).bind fun y130 =>
  bif (decide ((y130.1.length : Int) > 0)) then ((spec_l1Cur_pick.f y130.2 (y130.1.length : Int)).bind fun y131 =>
   (spec_l1Cur_pick.f y131.2 25).bind fun y132 =>
   bif (decide (y132.1 = 0)) then ((spec_l1Cur_among.f y132.2 [(-1), 40, 3]).bind fun y133 =>
    bif ((decide (0 ≤ y131.1)) && (decide (y131.1 < (y130.1.length : Int)))) then (some ((y130.1.set (y131.1).toNat (y133.1, (y130.1.getD (y131.1).toNat (0, 0, ([] : List ByteArray))).2)), y133.2)) else none) else
   (bif (decide (y132.1 = 1)) then (bif ((decide (0 ≤ y131.1)) && (decide (y131.1 < (y130.1.length : Int)))) then (bif ((decide (0 ≤ y131.1)) && (decide (y131.1 < (y130.1.length : Int)))) then (some ((y130.1.set (y131.1).toNat ((y130.1.getD (y131.1).toNat (0, 0, ([] : List ByteArray))).1, (w64 ((y130.1.getD (y131.1).toNat (0, 0, ([] : List ByteArray))).2.1 + 3)), (y130.1.getD (y131.1).toNat (0, 0, ([] : List ByteArray))).2.2)), y132.2)) else none) else none) else
    (bif (decide (y132.1 = 2)) then (bif ((decide (0 ≤ y131.1)) && (decide (y131.1 < (y130.1.length : Int)))) then (some ((y130.1.set (y131.1).toNat ((y130.1.getD (y131.1).toNat (0, 0, ([] : List ByteArray))).1, (y130.1.getD (y131.1).toNat (0, 0, ([] : List ByteArray))).2.1, [em])), y132.2)) else none) else
     (bif (decide (y132.1 = 3)) then (bif ((decide (0 ≤ y131.1)) && (decide (y131.1 < (y130.1.length : Int)))) then (bif (decide (((y130.1.getD (y131.1).toNat (0, 0, ([] : List ByteArray))).2.2.length + [(⟨#[101, 110, 100]⟩ : ByteArray)].length) ≤ room 16)) then (bif ((decide (0 ≤ y131.1)) && (decide ((y131.1).toNat = (y131.1).toNat))) then (bif (decide ((y131.1).toNat = (y131.1).toNat)) then (some ((y130.1.set (y131.1).toNat ((y130.1.getD (y131.1).toNat (0, 0, ([] : List ByteArray))).1, (y130.1.getD (y131.1).toNat (0, 0, ([] : List ByteArray))).2.1, ((y130.1.getD (y131.1).toNat (0, 0, ([] : List ByteArray))).2.2 ++ [(⟨#[101, 110, 100]⟩ : ByteArray)]))), y132.2)) else none) else none) else none) else none) else (some (y130.1, y132.2)))))) else (some (y130.1, y130.2))) := by kernel_rfl
noncomputable def spec_l1Cur_anyHunks.S : Abs.Sum := ⟨spec_l1Cur_anyHunks.P, spec_l1Cur_anyHunks.R, fun _ => Fn spec_l1Cur_anyHunks.E spec_l1Cur_anyHunks.T spec_l1Cur_anyHunks.C spec_l1Cur_anyHunks.P spec_l1Cur_anyHunks.R spec_l1Cur_anyHunks.X⟩
theorem spec_l1Cur_anyHunks.meets : Meets Try.prog 124 spec_l1Cur_anyHunks.S := meets_tabZ spec_l1Cur_anyHunks.Z (S := spec_l1Cur_anyHunks.U) tabOk_all (AllMeets.cons spec_l1Cur_hunks.meets (AllMeets.cons spec_l1Cur_pick.meets (AllMeets.cons spec_l1Cur_among.meets AllMeets.nil))) (AllStill.cons (fun _ _ _ => rfl) (AllStill.cons (fun _ _ _ => rfl) (AllStill.cons (fun _ _ _ => rfl) AllStill.nil))) follows (by kernel_rfl : Try.prog.funcs[124]? = some Try.f124) (by kernel_rfl) (by kernel_rfl) (by kernel_rfl)
noncomputable def spec_DrawIsLeast.C : Code := Try.f68.body.getD .skip
def spec_DrawIsLeast.P : Par := (.cons (.val (.list (.int .u8))) .nil)
noncomputable def spec_DrawIsLeast.U : SumTab := [(121, [], spec_l1Cur_anyText.S), (75, [], spec_l1Good.S), (122, [], spec_l1Cur_one.S), (123, [], spec_l1Cur_other.S), (36, [], spec_DiffHunks.S), (124, [], spec_l1Cur_anyHunks.S)]
def spec_DrawIsLeast.Z : List (Nat × List Nat) := [(4, [5]), (6, [5])]
noncomputable def spec_DrawIsLeast.E : Env := mkEnvZ TY AR spec_DrawIsLeast.U spec_DrawIsLeast.Z
noncomputable def spec_DrawIsLeast.T : Tab := fun k => look k []
def spec_DrawIsLeast.R : List (Nat × Ty) := [(0, .list .str), (9, .list (.pair (.int .i64) (.pair (.int .i64) (.one (.list .str)))))]
def spec_DrawIsLeast.X : List ResultVar := [.tmp 2, .tmp 3]
noncomputable def spec_DrawIsLeast.f (code : List Int) : Option ((List ByteArray) × (List (Int × Int × List ByteArray))) := Fn spec_DrawIsLeast.E spec_DrawIsLeast.T spec_DrawIsLeast.C spec_DrawIsLeast.P spec_DrawIsLeast.R spec_DrawIsLeast.X code
theorem spec_DrawIsLeast.f_eq (code : List Int) : spec_DrawIsLeast.f code =
  ((spec_l1Cur_anyText.f (code, 0, 0)).bind fun y190 =>
  (spec_l1Good.f y190.1).bind fun y191 =>
  bif y191 then ((spec_l1Cur_one.f y190.2 2).bind fun y192 =>
   bif y192.1 then ((spec_l1Cur_other.f y192.2 y190.1).bind fun y193 =>
    (spec_DiffHunks.f y190.1 y193.1).bind fun y194 =>
    some (y190.1, y194.1)) else
   ((spec_l1Cur_anyHunks.f y192.2 y190.1).bind fun y193 =>
    some (y190.1, y193.1))) else
  ((spec_l1Cur_anyHunks.f y190.2 y190.1).bind fun y192 =>
   some (y190.1, y192.1))) := by kernel_rfl
noncomputable def spec_DrawIsLeast.S : Abs.Sum := ⟨spec_DrawIsLeast.P, spec_DrawIsLeast.R, fun _ => Fn spec_DrawIsLeast.E spec_DrawIsLeast.T spec_DrawIsLeast.C spec_DrawIsLeast.P spec_DrawIsLeast.R spec_DrawIsLeast.X⟩
theorem spec_DrawIsLeast.meets : Meets Try.prog 68 spec_DrawIsLeast.S := meets_tabZ spec_DrawIsLeast.Z (S := spec_DrawIsLeast.U) tabOk_all (AllMeets.cons spec_l1Cur_anyText.meets (AllMeets.cons spec_l1Good.meets (AllMeets.cons spec_l1Cur_one.meets (AllMeets.cons spec_l1Cur_other.meets (AllMeets.cons spec_DiffHunks.meets (AllMeets.cons spec_l1Cur_anyHunks.meets AllMeets.nil)))))) (AllStill.cons (fun _ _ _ => rfl) (AllStill.cons (fun _ _ _ => rfl) (AllStill.cons (fun _ _ _ => rfl) (AllStill.cons (fun _ _ _ => rfl) (AllStill.cons (fun _ _ _ => rfl) (AllStill.cons (fun _ _ _ => rfl) AllStill.nil)))))) follows (by kernel_rfl : Try.prog.funcs[68]? = some Try.f68) (by kernel_rfl) (by kernel_rfl) (by kernel_rfl)
noncomputable def spec_CountHunks.C : Code := Try.f126.body.getD .skip
def spec_CountHunks.P : Par := (.cons (.val (.list (.pair (.int .i64) (.pair (.int .i64) (.one (.list .str)))))) .nil)
noncomputable def spec_CountHunks.U : SumTab := [(94, [], spec_l1In.S)]
noncomputable def spec_CountHunks.E : Env := mkEnv TY AR spec_CountHunks.U
def spec_CountHunks.D6 : CutD := ⟨[0, 5, 6, 9, 10, 11], (.cons (.val (.list (.pair (.int .i64) (.pair (.int .i64) (.one (.list .str)))))) (.cons (.val (.int .i64)) (.cons (.val (.int .i64)) (.cons (.val (.list (.pair (.int .i64) (.pair (.int .i64) (.one (.list .str)))))) (.cons (.val (.int .i64)) (.cons (.val (.int .i64)) .nil))))))⟩
noncomputable def spec_CountHunks.T : Tab := fun k => look k [(6, spec_CountHunks.D6)]
def spec_CountHunks.R : List (Nat × Ty) := [(0, .int .i64), (0, .int .i64), (0, .bool)]
def spec_CountHunks.X : List ResultVar := [.tmp 2, .tmp 3, .tmp 4]
noncomputable def spec_CountHunks.K := fin spec_CountHunks.E ⟨spec_CountHunks.P, spec_CountHunks.R, fun _ _ => none⟩ spec_CountHunks.X spec_CountHunks.P.len 0
noncomputable def spec_CountHunks.l6 (h : List (Int × Int × List ByteArray)) (gone : Int) (come : Int) (t9 : List (Int × Int × List ByteArray)) (t10 : Int) (t11 : Int) : Option (Int × Int × Bool) := fixP spec_CountHunks.E spec_CountHunks.T spec_CountHunks.C spec_CountHunks.K 6 spec_CountHunks.D6 (h, gone, come, t9, t10, t11)
noncomputable def spec_CountHunks.f (h : List (Int × Int × List ByteArray)) : Option (Int × Int × Bool) := Fn spec_CountHunks.E spec_CountHunks.T spec_CountHunks.C spec_CountHunks.P spec_CountHunks.R spec_CountHunks.X h
theorem spec_CountHunks.l6_eq (h : List (Int × Int × List ByteArray)) (gone : Int) (come : Int) (t9 : List (Int × Int × List ByteArray)) (t10 : Int) (t11 : Int) : spec_CountHunks.l6 h gone come t9 t10 t11 =
  (bif (decide (t11 < t10)) then (bif ((decide (0 ≤ t11)) && (decide (t11 < (t9.length : Int)))) then ((spec_l1In.f (t9.getD (t11).toNat (0, 0, ([] : List ByteArray))).2.1 0 1000000).bind fun y190 =>
    bif (!y190) then (some (0, 0, false)) else
    (spec_CountHunks.l6 h (w64 (gone + (t9.getD (t11).toNat (0, 0, ([] : List ByteArray))).2.1)) (w64 (come + ((t9.getD (t11).toNat (0, 0, ([] : List ByteArray))).2.2.length : Int))) t9 t10 (w64 (t11 + 1)))) else none) else
  (bif (decide ((h.length : Int) > 20)) then (some (0, 0, false)) else (some (gone, come, true)))) :=
  (fixP_eq spec_CountHunks.E spec_CountHunks.T spec_CountHunks.C spec_CountHunks.K 6 spec_CountHunks.D6 (h, gone, come, t9, t10, t11)).trans (by kernel_rfl)
theorem spec_CountHunks.f_eq (h : List (Int × Int × List ByteArray)) : spec_CountHunks.f h =
  (spec_CountHunks.l6 h 0 0 h (h.length : Int) 0) := by kernel_rfl
noncomputable def spec_CountHunks.S : Abs.Sum := ⟨spec_CountHunks.P, spec_CountHunks.R, fun _ => Fn spec_CountHunks.E spec_CountHunks.T spec_CountHunks.C spec_CountHunks.P spec_CountHunks.R spec_CountHunks.X⟩
theorem spec_CountHunks.meets : Meets Try.prog 126 spec_CountHunks.S := meets_tab (S := spec_CountHunks.U) tabOk_all (AllMeets.cons spec_l1In.meets AllMeets.nil) (AllStill.cons (fun _ _ _ => rfl) AllStill.nil) follows (by kernel_rfl : Try.prog.funcs[126]? = some Try.f126) (by kernel_rfl) (by kernel_rfl) (by kernel_rfl)
noncomputable def spec_l3Apart.C : Code := Try.f127.body.getD .skip
def spec_l3Apart.P : Par := (.cons (.val (.list .str)) (.cons (.val (.list .str)) .nil))
noncomputable def spec_l3Apart.U : SumTab := [(164, [], spec_l3Table.S)]
noncomputable def spec_l3Apart.E : Env := mkEnv TY AR spec_l3Apart.U
noncomputable def spec_l3Apart.T : Tab := fun k => look k []
def spec_l3Apart.R : List (Nat × Ty) := [(0, .int .i64)]
def spec_l3Apart.X : List ResultVar := [.tmp 4]
noncomputable def spec_l3Apart.f (a : List ByteArray) (b : List ByteArray) : Option (Int) := Fn spec_l3Apart.E spec_l3Apart.T spec_l3Apart.C spec_l3Apart.P spec_l3Apart.R spec_l3Apart.X (a, b)
theorem spec_l3Apart.f_eq (a : List ByteArray) (b : List ByteArray) : spec_l3Apart.f a b =
  ((spec_l3Table.f a b).bind fun y190 =>
  bif (decide (0 < (y190.length : Int))) then (bif (decide (0 < ((y190.getD 0 ([] : List Int)).length : Int))) then (some (w64 ((w64 ((a.length : Int) + (b.length : Int))) - (w64 (2 * ((y190.getD 0 ([] : List Int)).getD 0 0)))))) else none) else none) := by kernel_rfl
noncomputable def spec_l3Apart.S : Abs.Sum := ⟨spec_l3Apart.P, spec_l3Apart.R, fun _ => Fn spec_l3Apart.E spec_l3Apart.T spec_l3Apart.C spec_l3Apart.P spec_l3Apart.R spec_l3Apart.X⟩
theorem spec_l3Apart.meets : Meets Try.prog 127 spec_l3Apart.S := meets_tab (S := spec_l3Apart.U) tabOk_all (AllMeets.cons spec_l3Table.meets AllMeets.nil) (AllStill.cons (fun _ _ _ => rfl) AllStill.nil) follows (by kernel_rfl : Try.prog.funcs[127]? = some Try.f127) (by kernel_rfl) (by kernel_rfl) (by kernel_rfl)
noncomputable def spec_IsLeast.C : Code := Try.f69.body.getD .skip
def spec_IsLeast.P : Par := (.cons (.val (.list .str)) (.cons (.val (.list (.pair (.int .i64) (.pair (.int .i64) (.one (.list .str)))))) .nil))
noncomputable def spec_IsLeast.U : SumTab := [(125, [], spec_Patch.S), (126, [], spec_CountHunks.S), (127, [], spec_l3Apart.S)]
noncomputable def spec_IsLeast.E : Env := mkEnv TY AR spec_IsLeast.U
noncomputable def spec_IsLeast.T : Tab := fun k => look k []
def spec_IsLeast.R : List (Nat × Ty) := [(0, .bool), (0, .bool)]
def spec_IsLeast.X : List ResultVar := [.tmp 4, .tmp 5]
noncomputable def spec_IsLeast.f (a : List ByteArray) (h : List (Int × Int × List ByteArray)) : Option (Bool × Bool) := Fn spec_IsLeast.E spec_IsLeast.T spec_IsLeast.C spec_IsLeast.P spec_IsLeast.R spec_IsLeast.X (a, h)
theorem spec_IsLeast.f_eq (a : List ByteArray) (h : List (Int × Int × List ByteArray)) : spec_IsLeast.f a h =
  ((spec_Patch.f a h).bind fun y190 =>
  bif (!y190.2) then (some (false, false)) else
  ((spec_CountHunks.f h).bind fun y191 =>
   (spec_l3Apart.f a y190.1).bind fun y192 =>
   some ((decide ((w64 (y191.1 + y191.2.1)) = y192)), true))) := by kernel_rfl
noncomputable def spec_IsLeast.S : Abs.Sum := ⟨spec_IsLeast.P, spec_IsLeast.R, fun _ => Fn spec_IsLeast.E spec_IsLeast.T spec_IsLeast.C spec_IsLeast.P spec_IsLeast.R spec_IsLeast.X⟩
theorem spec_IsLeast.meets : Meets Try.prog 69 spec_IsLeast.S := meets_tab (S := spec_IsLeast.U) tabOk_all (AllMeets.cons spec_Patch.meets (AllMeets.cons spec_CountHunks.meets (AllMeets.cons spec_l3Apart.meets AllMeets.nil))) (AllStill.cons (fun _ _ _ => rfl) (AllStill.cons (fun _ _ _ => rfl) (AllStill.cons (fun _ _ _ => rfl) AllStill.nil))) follows (by kernel_rfl : Try.prog.funcs[69]? = some Try.f69) (by kernel_rfl) (by kernel_rfl) (by kernel_rfl)
noncomputable def laws_FnDiffs.C : Code := Try.f12.body.getD .skip
def laws_FnDiffs.P : Par := (.cons (.val (.list (.int .u8))) (.cons (.val (.list (.int .u8))) .nil))
noncomputable def laws_FnDiffs.U : SumTab := [(57, [], laws_big.S), (61, [], spec_DrawDiffHunks.S), (37, [], impl_DiffHunks.S), (36, [], spec_DiffHunks.S), (24, [], impl_NeedsHunks.S), (23, [], spec_NeedsHunks.S), (62, [], laws_sameHunks.S), (63, [], impl_Patch.S), (64, [], impl_IsLeast.S), (65, [], impl_FarApart.S), (66, [], impl_CountHunks.S), (67, [], laws_sameTexts.S), (68, [], spec_DrawIsLeast.S), (69, [], spec_IsLeast.S)]
noncomputable def laws_FnDiffs.E : Env := mkEnv TY AR laws_FnDiffs.U
def laws_FnDiffs.D21 : CutD := ⟨[1, 5, 6, 7, 8, 11], (.cons (.val (.list (.int .u8))) (.cons (.val (.list .str)) (.cons (.own 8 .str) (.cons (.own 8 (.pair (.int .i64) (.pair (.int .i64) (.one (.list .str))))) (.cons (.val .bool) (.cons (.val (.int .i64)) .nil))))))⟩
def laws_FnDiffs.D35 : CutD := ⟨[1], (.cons (.val (.list (.int .u8))) .nil)⟩
noncomputable def laws_FnDiffs.T : Tab := fun k => look k [(21, laws_FnDiffs.D21), (35, laws_FnDiffs.D35)]
def laws_FnDiffs.R : List (Nat × Ty) := [(0, .bool)]
def laws_FnDiffs.X : List ResultVar := [.tmp 4]
noncomputable def laws_FnDiffs.K := fin laws_FnDiffs.E ⟨laws_FnDiffs.P, laws_FnDiffs.R, fun _ _ => none⟩ laws_FnDiffs.X laws_FnDiffs.P.len 0
noncomputable def laws_FnDiffs.l21 (more : List Int) (a : List ByteArray) (b : List ByteArray) (h : List (Int × Int × List ByteArray)) (ok : Bool) (n : Int) : Option (Bool) := fixP laws_FnDiffs.E laws_FnDiffs.T laws_FnDiffs.C laws_FnDiffs.K 21 laws_FnDiffs.D21 (more, a, b, h, ok, n)
noncomputable def laws_FnDiffs.l35 (more : List Int) : Option (Bool) := fixP laws_FnDiffs.E laws_FnDiffs.T laws_FnDiffs.C laws_FnDiffs.K 35 laws_FnDiffs.D35 more
noncomputable def laws_FnDiffs.f (code : List Int) (more : List Int) : Option (Bool) := Fn laws_FnDiffs.E laws_FnDiffs.T laws_FnDiffs.C laws_FnDiffs.P laws_FnDiffs.R laws_FnDiffs.X (code, more)
theorem laws_FnDiffs.l21_eq (more : List Int) (a : List ByteArray) (b : List ByteArray) (h : List (Int × Int × List ByteArray)) (ok : Bool) (n : Int) : laws_FnDiffs.l21 more a b h ok n =
  (bif ok then ((impl_Patch.f a h).bind fun y190 =>
   (impl_IsLeast.f a h).bind fun y191 =>
   (impl_FarApart.f a b).bind fun y192 =>
   (impl_CountHunks.f h).bind fun y193 =>
   bif (!y190.2) then (some false) else
   ((laws_sameTexts.f y190.1 b).bind fun y194 =>
    bif (!y194) then (some false) else
    (bif (!y191.2) then (some false) else
     (bif (!y191.1) then (some false) else
      (bif (!y192.2) then (some false) else
       (bif (!y193.2.2) then (some false) else
        (bif (!(decide ((w64 (y193.1 + y193.2.1)) = y192.1))) then (some false) else
         (bif (!(decide ((h.length : Int) = n))) then (some false) else
          ((laws_sameTexts.f a b).bind fun y195 =>
           bif (!((decide (n = 0)) == y195)) then (some false) else
           (laws_FnDiffs.l35 more)))))))))) else
  (laws_FnDiffs.l35 more)) :=
  (fixP_eq laws_FnDiffs.E laws_FnDiffs.T laws_FnDiffs.C laws_FnDiffs.K 21 laws_FnDiffs.D21 (more, a, b, h, ok, n)).trans (by kernel_rfl)
theorem laws_FnDiffs.l35_eq (more : List Int) : laws_FnDiffs.l35 more =
  ((spec_DrawIsLeast.f more).bind fun y190 =>
  (impl_IsLeast.f y190.1 y190.2).bind fun y191 =>
  (spec_IsLeast.f y190.1 y190.2).bind fun y192 =>
  bif (y191.2 == y192.2) then (some (y191.1 == y192.1)) else (some false)) :=
  (fixP_eq laws_FnDiffs.E laws_FnDiffs.T laws_FnDiffs.C laws_FnDiffs.K 35 laws_FnDiffs.D35 more).trans (by kernel_rfl)
theorem laws_FnDiffs.f_eq (code : List Int) (more : List Int) : laws_FnDiffs.f code more =
  ((laws_big.f code more).bind fun y190 =>
  bif y190 then (some true) else
  ((spec_DrawDiffHunks.f code).bind fun y191 =>
   (impl_DiffHunks.f y191.1 y191.2).bind fun y192 =>
   (spec_DiffHunks.f y191.1 y191.2).bind fun y193 =>
   (impl_NeedsHunks.f y191.1 y191.2).bind fun y194 =>
   (spec_NeedsHunks.f y191.1 y191.2).bind fun y195 =>
   bif (!(y192.2 == y193.2)) then (some false) else
   ((laws_sameHunks.f y192.1 y193.1).bind fun y196 =>
    bif (!y196) then (some false) else
    (bif (!(y194.2 == y195.2)) then (some false) else
     (bif (!(decide (y194.1 = y195.1))) then (some false) else
      (bif y194.2 then (bif (!(y192.2 == (decide (y194.1 ≤ 20)))) then (some false) else
        (laws_FnDiffs.l21 more y191.1 y191.2 y192.1 y192.2 y194.1)) else
       (bif (!(y192.2 == false)) then (some false) else
        (laws_FnDiffs.l21 more y191.1 y191.2 y192.1 y192.2 y194.1)))))))) := by kernel_rfl
noncomputable def laws_FnDiffs.S : Abs.Sum := ⟨laws_FnDiffs.P, laws_FnDiffs.R, fun _ => Fn laws_FnDiffs.E laws_FnDiffs.T laws_FnDiffs.C laws_FnDiffs.P laws_FnDiffs.R laws_FnDiffs.X⟩
theorem laws_FnDiffs.meets : Meets Try.prog 12 laws_FnDiffs.S := meets_tab (S := laws_FnDiffs.U) tabOk_all (AllMeets.cons laws_big.meets (AllMeets.cons spec_DrawDiffHunks.meets (AllMeets.cons impl_DiffHunks.meets (AllMeets.cons spec_DiffHunks.meets (AllMeets.cons impl_NeedsHunks.meets (AllMeets.cons spec_NeedsHunks.meets (AllMeets.cons laws_sameHunks.meets (AllMeets.cons impl_Patch.meets (AllMeets.cons impl_IsLeast.meets (AllMeets.cons impl_FarApart.meets (AllMeets.cons impl_CountHunks.meets (AllMeets.cons laws_sameTexts.meets (AllMeets.cons spec_DrawIsLeast.meets (AllMeets.cons spec_IsLeast.meets AllMeets.nil)))))))))))))) (AllStill.cons (fun _ _ _ => rfl) (AllStill.cons (fun _ _ _ => rfl) (AllStill.cons (fun _ _ _ => rfl) (AllStill.cons (fun _ _ _ => rfl) (AllStill.cons (fun _ _ _ => rfl) (AllStill.cons (fun _ _ _ => rfl) (AllStill.cons (fun _ _ _ => rfl) (AllStill.cons (fun _ _ _ => rfl) (AllStill.cons (fun _ _ _ => rfl) (AllStill.cons (fun _ _ _ => rfl) (AllStill.cons (fun _ _ _ => rfl) (AllStill.cons (fun _ _ _ => rfl) (AllStill.cons (fun _ _ _ => rfl) (AllStill.cons (fun _ _ _ => rfl) AllStill.nil)))))))))))))) follows (by kernel_rfl : Try.prog.funcs[12]? = some Try.f12) (by kernel_rfl) (by kernel_rfl) (by kernel_rfl)
end Go.Abs.G
