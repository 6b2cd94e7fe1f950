import Derived.Test.YtkbhmdlljfknoaaGB
set_option linter.unusedVariables false
set_option linter.unusedSimpArgs false
set_option linter.unusedSectionVars false
namespace Go.Abs.G
open Go Go.Abs Go.Proofs
noncomputable def spec_l1In.C : Code := Try.f113.body.getD .skip
def spec_l1In.P : Par := (.cons (.val (.int .i64)) (.cons (.val (.int .i64)) (.cons (.val (.int .i64)) .nil)))
noncomputable def spec_l1In.U : SumTab := []
noncomputable def spec_l1In.E : Env := mkEnv TY AR spec_l1In.U
noncomputable def spec_l1In.T : Tab := fun k => look k []
def spec_l1In.R : List (Nat × Ty) := [(0, .bool)]
def spec_l1In.X : List ResultVar := [.tmp 6]
noncomputable def spec_l1In.f (n : Int) (lo : Int) (hi : Int) : Option (Bool) := Fn spec_l1In.E spec_l1In.T spec_l1In.C spec_l1In.P spec_l1In.R spec_l1In.X (n, lo, hi)
theorem spec_l1In.f_eq (n : Int) (lo : Int) (hi : Int) : spec_l1In.f n lo hi =
  (bif (decide (n ≥ lo)) then (some (decide (n ≤ hi))) else (some false)) := by kernel_rfl
noncomputable def spec_l1In.S : Abs.Sum := ⟨spec_l1In.P, spec_l1In.R, fun _ => Fn spec_l1In.E spec_l1In.T spec_l1In.C spec_l1In.P spec_l1In.R spec_l1In.X⟩
theorem spec_l1In.meets : Meets Try.prog 113 spec_l1In.S := meets_tab (S := spec_l1In.U) tabOk_all AllMeets.nil AllStill.nil follows (by kernel_rfl : Try.prog.funcs[113]? = some Try.f113) (by kernel_rfl) (by kernel_rfl) (by kernel_rfl)
noncomputable def spec_l1Line.C : Code := Try.f159.body.getD .skip
def spec_l1Line.P : Par := (.cons (.val .str) .nil)
noncomputable def spec_l1Line.U : SumTab := [(113, [], spec_l1In.S)]
noncomputable def spec_l1Line.E : Env := mkEnv TY AR spec_l1Line.U
def spec_l1Line.D4 : CutD := ⟨[0, 3], (.cons (.val .str) (.cons (.val (.int .i64)) .nil))⟩
noncomputable def spec_l1Line.T : Tab := fun k => look k [(4, spec_l1Line.D4)]
def spec_l1Line.R : List (Nat × Ty) := [(0, .bool)]
def spec_l1Line.X : List ResultVar := [.tmp 2]
noncomputable def spec_l1Line.K := fin spec_l1Line.E ⟨spec_l1Line.P, spec_l1Line.R, fun _ _ => none⟩ spec_l1Line.X spec_l1Line.P.len 0
noncomputable def spec_l1Line.l4 (s : ByteArray) (i : Int) : Option (Bool) := fixP spec_l1Line.E spec_l1Line.T spec_l1Line.C spec_l1Line.K 4 spec_l1Line.D4 (s, i)
noncomputable def spec_l1Line.f (s : ByteArray) : Option (Bool) := Fn spec_l1Line.E spec_l1Line.T spec_l1Line.C spec_l1Line.P spec_l1Line.R spec_l1Line.X s
theorem spec_l1Line.l4_eq (s : ByteArray) (i : Int) : spec_l1Line.l4 s i =
  (bif (decide (i < (w64 ((s.size : Int) - 1)))) then (bif ((decide (0 ≤ i)) && (decide (i < (s.size : Int)))) then (bif (decide ((bt s i) = 10)) then (some false) else
    (spec_l1Line.l4 s (w64 (i + 1)))) else none) else
  ((spec_l1In.f (s.size : Int) 1 30).bind fun y1 =>
   some y1)) :=
  (fixP_eq spec_l1Line.E spec_l1Line.T spec_l1Line.C spec_l1Line.K 4 spec_l1Line.D4 (s, i)).trans (by kernel_rfl)
theorem spec_l1Line.f_eq (s : ByteArray) : spec_l1Line.f s =
  (spec_l1Line.l4 s 0) := by kernel_rfl
noncomputable def spec_l1Line.S : Abs.Sum := ⟨spec_l1Line.P, spec_l1Line.R, fun _ => Fn spec_l1Line.E spec_l1Line.T spec_l1Line.C spec_l1Line.P spec_l1Line.R spec_l1Line.X⟩
theorem spec_l1Line.meets : Meets Try.prog 159 spec_l1Line.S := meets_tab (S := spec_l1Line.U) tabOk_all (AllMeets.cons spec_l1In.meets AllMeets.nil) (AllStill.cons (fun _ _ _ => rfl) AllStill.nil) follows (by kernel_rfl : Try.prog.funcs[159]? = some Try.f159) (by kernel_rfl) (by kernel_rfl) (by kernel_rfl)
noncomputable def spec_l1Ends.C : Code := Try.f160.body.getD .skip
def spec_l1Ends.P : Par := (.cons (.val .str) .nil)
noncomputable def spec_l1Ends.U : SumTab := []
noncomputable def spec_l1Ends.E : Env := mkEnv TY AR spec_l1Ends.U
noncomputable def spec_l1Ends.T : Tab := fun k => look k []
def spec_l1Ends.R : List (Nat × Ty) := [(0, .bool)]
def spec_l1Ends.X : List ResultVar := [.tmp 2]
noncomputable def spec_l1Ends.f (s : ByteArray) : Option (Bool) := Fn spec_l1Ends.E spec_l1Ends.T spec_l1Ends.C spec_l1Ends.P spec_l1Ends.R spec_l1Ends.X s
theorem spec_l1Ends.f_eq (s : ByteArray) : spec_l1Ends.f s =
  (bif ((decide (0 ≤ (w64 ((s.size : Int) - 1)))) && (decide ((w64 ((s.size : Int) - 1)) < (s.size : Int)))) then (some (decide ((bt s (w64 ((s.size : Int) - 1))) = 10))) else none) := by kernel_rfl
noncomputable def spec_l1Ends.S : Abs.Sum := ⟨spec_l1Ends.P, spec_l1Ends.R, fun _ => Fn spec_l1Ends.E spec_l1Ends.T spec_l1Ends.C spec_l1Ends.P spec_l1Ends.R spec_l1Ends.X⟩
theorem spec_l1Ends.meets : Meets Try.prog 160 spec_l1Ends.S := meets_tab (S := spec_l1Ends.U) tabOk_all AllMeets.nil AllStill.nil follows (by kernel_rfl : Try.prog.funcs[160]? = some Try.f160) (by kernel_rfl) (by kernel_rfl) (by kernel_rfl)
noncomputable def spec_l1Good.C : Code := Try.f84.body.getD .skip
def spec_l1Good.P : Par := (.cons (.val (.list .str)) .nil)
noncomputable def spec_l1Good.U : SumTab := [(159, [], spec_l1Line.S), (160, [], spec_l1Ends.S)]
noncomputable def spec_l1Good.E : Env := mkEnv TY AR spec_l1Good.U
def spec_l1Good.D4 : CutD := ⟨[0, 5, 6, 7], (.cons (.val (.list .str)) (.cons (.val (.list .str)) (.cons (.val (.int .i64)) (.cons (.val (.int .i64)) .nil))))⟩
noncomputable def spec_l1Good.T : Tab := fun k => look k [(4, spec_l1Good.D4)]
def spec_l1Good.R : List (Nat × Ty) := [(0, .bool)]
def spec_l1Good.X : List ResultVar := [.tmp 2]
noncomputable def spec_l1Good.K := fin spec_l1Good.E ⟨spec_l1Good.P, spec_l1Good.R, fun _ _ => none⟩ spec_l1Good.X spec_l1Good.P.len 0
noncomputable def spec_l1Good.l4 (l : List ByteArray) (t5 : List ByteArray) (t6 : Int) (t7 : Int) : Option (Bool) := fixP spec_l1Good.E spec_l1Good.T spec_l1Good.C spec_l1Good.K 4 spec_l1Good.D4 (l, t5, t6, t7)
noncomputable def spec_l1Good.f (l : List ByteArray) : Option (Bool) := Fn spec_l1Good.E spec_l1Good.T spec_l1Good.C spec_l1Good.P spec_l1Good.R spec_l1Good.X l
theorem spec_l1Good.l4_eq (l : List ByteArray) (t5 : List ByteArray) (t6 : Int) (t7 : Int) : spec_l1Good.l4 l t5 t6 t7 =
  (bif (decide (t7 < t6)) then (bif ((decide (0 ≤ t7)) && (decide (t7 < (t5.length : Int)))) then ((spec_l1Line.f (t5.getD (t7).toNat em)).bind fun y1 =>
    bif (!y1) then (some false) else
    (bif (decide (t7 < (w64 ((l.length : Int) - 1)))) then ((spec_l1Ends.f (t5.getD (t7).toNat em)).bind fun y2 =>
      bif (!y2) then (some false) else
      (spec_l1Good.l4 l t5 t6 (w64 (t7 + 1)))) else
     (spec_l1Good.l4 l t5 t6 (w64 (t7 + 1))))) else none) else (some (decide ((l.length : Int) ≤ 40)))) :=
  (fixP_eq spec_l1Good.E spec_l1Good.T spec_l1Good.C spec_l1Good.K 4 spec_l1Good.D4 (l, t5, t6, t7)).trans (by kernel_rfl)
theorem spec_l1Good.f_eq (l : List ByteArray) : spec_l1Good.f l =
  (spec_l1Good.l4 l l (l.length : Int) 0) := by kernel_rfl
noncomputable def spec_l1Good.S : Abs.Sum := ⟨spec_l1Good.P, spec_l1Good.R, fun _ => Fn spec_l1Good.E spec_l1Good.T spec_l1Good.C spec_l1Good.P spec_l1Good.R spec_l1Good.X⟩
theorem spec_l1Good.meets : Meets Try.prog 84 spec_l1Good.S := meets_tab (S := spec_l1Good.U) tabOk_all (AllMeets.cons spec_l1Line.meets (AllMeets.cons spec_l1Ends.meets AllMeets.nil)) (AllStill.cons (fun _ _ _ => rfl) (AllStill.cons (fun _ _ _ => rfl) AllStill.nil)) follows (by kernel_rfl : Try.prog.funcs[84]? = some Try.f84) (by kernel_rfl) (by kernel_rfl) (by kernel_rfl)
noncomputable def spec_l2Hunks.C : Code := Try.f161.body.getD .skip
def spec_l2Hunks.P : Par := (.cons (.val (.int .i64)) (.cons (.val (.list (.pair (.int .i64) (.pair (.int .i64) (.one (.list .str)))))) .nil))
noncomputable def spec_l2Hunks.U : SumTab := [(159, [], spec_l1Line.S), (113, [], spec_l1In.S)]
noncomputable def spec_l2Hunks.E : Env := mkEnv TY AR spec_l2Hunks.U
def spec_l2Hunks.D4 : CutD := ⟨[0, 1, 9, 10, 11], (.cons (.val (.int .i64)) (.cons (.val (.list (.pair (.int .i64) (.pair (.int .i64) (.one (.list .str)))))) (.cons (.val (.list (.pair (.int .i64) (.pair (.int .i64) (.one (.list .str)))))) (.cons (.val (.int .i64)) (.cons (.val (.int .i64)) .nil)))))⟩
def spec_l2Hunks.D13 : CutD := ⟨[0, 1, 6, 9, 10, 11], (.cons (.val (.int .i64)) (.cons (.val (.list (.pair (.int .i64) (.pair (.int .i64) (.one (.list .str)))))) (.cons (.box 0 (.pair (.int .i64) (.pair (.int .i64) (.one (.list .str))))) (.cons (.val (.list (.pair (.int .i64) (.pair (.int .i64) (.one (.list .str)))))) (.cons (.val (.int .i64)) (.cons (.val (.int .i64)) .nil))))))⟩
def spec_l2Hunks.D14 : CutD := ⟨[0, 1, 9, 10, 11, 77, 78, 79], (.cons (.val (.int .i64)) (.cons (.val (.list (.pair (.int .i64) (.pair (.int .i64) (.one (.list .str)))))) (.cons (.val (.list (.pair (.int .i64) (.pair (.int .i64) (.one (.list .str)))))) (.cons (.val (.int .i64)) (.cons (.val (.int .i64)) (.cons (.val (.list .str)) (.cons (.val (.int .i64)) (.cons (.val (.int .i64)) .nil))))))))⟩
noncomputable def spec_l2Hunks.T : Tab := fun k => look k [(4, spec_l2Hunks.D4), (13, spec_l2Hunks.D13), (14, spec_l2Hunks.D14)]
def spec_l2Hunks.R : List (Nat × Ty) := [(0, .bool)]
def spec_l2Hunks.X : List ResultVar := [.tmp 4]
noncomputable def spec_l2Hunks.K := fin spec_l2Hunks.E ⟨spec_l2Hunks.P, spec_l2Hunks.R, fun _ _ => none⟩ spec_l2Hunks.X spec_l2Hunks.P.len 0
noncomputable def spec_l2Hunks.l4 (many : Int) (h : List (Int × Int × List ByteArray)) (t9 : List (Int × Int × List ByteArray)) (t10 : Int) (t11 : Int) : Option (Bool) := fixP spec_l2Hunks.E spec_l2Hunks.T spec_l2Hunks.C spec_l2Hunks.K 4 spec_l2Hunks.D4 (many, h, t9, t10, t11)
noncomputable def spec_l2Hunks.l13 (many : Int) (h : List (Int × Int × List ByteArray)) (x : Int × Int × List ByteArray) (t9 : List (Int × Int × List ByteArray)) (t10 : Int) (t11 : Int) : Option (Bool) := fixP spec_l2Hunks.E spec_l2Hunks.T spec_l2Hunks.C spec_l2Hunks.K 13 spec_l2Hunks.D13 (many, h, x, t9, t10, t11)
noncomputable def spec_l2Hunks.l14 (many : Int) (h : List (Int × Int × List ByteArray)) (t9 : List (Int × Int × List ByteArray)) (t10 : Int) (t11 : Int) (t77 : List ByteArray) (t78 : Int) (t79 : Int) : Option (Bool) := fixP spec_l2Hunks.E spec_l2Hunks.T spec_l2Hunks.C spec_l2Hunks.K 14 spec_l2Hunks.D14 (many, h, t9, t10, t11, t77, t78, t79)
noncomputable def spec_l2Hunks.f (many : Int) (h : List (Int × Int × List ByteArray)) : Option (Bool) := Fn spec_l2Hunks.E spec_l2Hunks.T spec_l2Hunks.C spec_l2Hunks.P spec_l2Hunks.R spec_l2Hunks.X (many, h)
theorem spec_l2Hunks.l4_eq (many : Int) (h : List (Int × Int × List ByteArray)) (t9 : List (Int × Int × List ByteArray)) (t10 : Int) (t11 : Int) : spec_l2Hunks.l4 many h t9 t10 t11 =
  (bif (decide (t11 < t10)) then (bif ((decide (0 ≤ t11)) && (decide (t11 < (t9.length : Int)))) then (bif (decide ((t9.getD (t11).toNat (0, 0, ([] : List ByteArray))).1 < 0)) then (some false) else
    (bif (decide ((t9.getD (t11).toNat (0, 0, ([] : List ByteArray))).2.1 < 0)) then (some false) else
     (bif (decide ((t9.getD (t11).toNat (0, 0, ([] : List ByteArray))).2.1 > many)) then (some false) else
      (bif (decide ((t9.getD (t11).toNat (0, 0, ([] : List ByteArray))).1 > (w64 (many - (t9.getD (t11).toNat (0, 0, ([] : List ByteArray))).2.1)))) then (some false) else
       (bif (decide ((w64 ((t9.getD (t11).toNat (0, 0, ([] : List ByteArray))).2.1 + ((t9.getD (t11).toNat (0, 0, ([] : List ByteArray))).2.2.length : Int))) = 0)) then (some false) else
        (bif (decide (((t9.getD (t11).toNat (0, 0, ([] : List ByteArray))).2.2.length : Int) > 40)) then (some false) else
         (bif (decide (t11 > 0)) then (bif ((decide (0 ≤ (w64 (t11 - 1)))) && (decide ((w64 (t11 - 1)) < (h.length : Int)))) then (bif ((decide (0 ≤ (w64 (t11 - 1)))) && (decide ((w64 (t11 - 1)) < (h.length : Int)))) then (bif (decide ((t9.getD (t11).toNat (0, 0, ([] : List ByteArray))).1 ≤ (w64 ((h.getD ((w64 (t11 - 1))).toNat (0, 0, ([] : List ByteArray))).1 + (h.getD ((w64 (t11 - 1))).toNat (0, 0, ([] : List ByteArray))).2.1)))) then (some false) else
             (spec_l2Hunks.l13 many h (t9.getD (t11).toNat (0, 0, ([] : List ByteArray))) t9 t10 t11)) else none) else none) else
          (spec_l2Hunks.l13 many h (t9.getD (t11).toNat (0, 0, ([] : List ByteArray))) t9 t10 t11)))))))) else none) else
  (bif (decide ((h.length : Int) ≤ 20)) then ((spec_l1In.f many 0 40).bind fun y1 =>
    some y1) else (some false))) :=
  (fixP_eq spec_l2Hunks.E spec_l2Hunks.T spec_l2Hunks.C spec_l2Hunks.K 4 spec_l2Hunks.D4 (many, h, t9, t10, t11)).trans (by kernel_rfl)
theorem spec_l2Hunks.l13_eq (many : Int) (h : List (Int × Int × List ByteArray)) (x : Int × Int × List ByteArray) (t9 : List (Int × Int × List ByteArray)) (t10 : Int) (t11 : Int) : spec_l2Hunks.l13 many h x t9 t10 t11 =
  (spec_l2Hunks.l14 many h t9 t10 t11 x.2.2 (x.2.2.length : Int) 0) :=
  (fixP_eq spec_l2Hunks.E spec_l2Hunks.T spec_l2Hunks.C spec_l2Hunks.K 13 spec_l2Hunks.D13 (many, h, x, t9, t10, t11)).trans (by kernel_rfl)
theorem spec_l2Hunks.l14_eq (many : Int) (h : List (Int × Int × List ByteArray)) (t9 : List (Int × Int × List ByteArray)) (t10 : Int) (t11 : Int) (t77 : List ByteArray) (t78 : Int) (t79 : Int) : spec_l2Hunks.l14 many h t9 t10 t11 t77 t78 t79 =
  (bif (decide (t79 < t78)) then (bif ((decide (0 ≤ t79)) && (decide (t79 < (t77.length : Int)))) then ((spec_l1Line.f (t77.getD (t79).toNat em)).bind fun y1 =>
    bif (!y1) then (some false) else
    (spec_l2Hunks.l14 many h t9 t10 t11 t77 t78 (w64 (t79 + 1)))) else none) else
  (spec_l2Hunks.l4 many h t9 t10 (w64 (t11 + 1)))) :=
  (fixP_eq spec_l2Hunks.E spec_l2Hunks.T spec_l2Hunks.C spec_l2Hunks.K 14 spec_l2Hunks.D14 (many, h, t9, t10, t11, t77, t78, t79)).trans (by kernel_rfl)
theorem spec_l2Hunks.f_eq (many : Int) (h : List (Int × Int × List ByteArray)) : spec_l2Hunks.f many h =
  (spec_l2Hunks.l4 many h h (h.length : Int) 0) := by kernel_rfl
noncomputable def spec_l2Hunks.S : Abs.Sum := ⟨spec_l2Hunks.P, spec_l2Hunks.R, fun _ => Fn spec_l2Hunks.E spec_l2Hunks.T spec_l2Hunks.C spec_l2Hunks.P spec_l2Hunks.R spec_l2Hunks.X⟩
theorem spec_l2Hunks.meets : Meets Try.prog 161 spec_l2Hunks.S := meets_tab (S := spec_l2Hunks.U) tabOk_all (AllMeets.cons spec_l1Line.meets (AllMeets.cons spec_l1In.meets AllMeets.nil)) (AllStill.cons (fun _ _ _ => rfl) (AllStill.cons (fun _ _ _ => rfl) AllStill.nil)) follows (by kernel_rfl : Try.prog.funcs[161]? = some Try.f161) (by kernel_rfl) (by kernel_rfl) (by kernel_rfl)
noncomputable def spec_l2Asked.C : Code := Try.f192.body.getD .skip
def spec_l2Asked.P : Par := (.cons (.val (.list .str)) (.cons (.val (.list (.pair (.int .i64) (.pair (.int .i64) (.one (.list .str)))))) .nil))
noncomputable def spec_l2Asked.U : SumTab := [(84, [], spec_l1Good.S), (161, [], spec_l2Hunks.S)]
noncomputable def spec_l2Asked.E : Env := mkEnv TY AR spec_l2Asked.U
noncomputable def spec_l2Asked.T : Tab := fun k => look k []
def spec_l2Asked.R : List (Nat × Ty) := [(0, .bool)]
def spec_l2Asked.X : List ResultVar := [.tmp 4]
noncomputable def spec_l2Asked.f (l : List ByteArray) (h : List (Int × Int × List ByteArray)) : Option (Bool) := Fn spec_l2Asked.E spec_l2Asked.T spec_l2Asked.C spec_l2Asked.P spec_l2Asked.R spec_l2Asked.X (l, h)
theorem spec_l2Asked.f_eq (l : List ByteArray) (h : List (Int × Int × List ByteArray)) : spec_l2Asked.f l h =
  ((spec_l1Good.f l).bind fun y1 =>
  bif y1 then ((spec_l2Hunks.f (l.length : Int) h).bind fun y2 =>
   some y2) else (some false)) := by kernel_rfl
noncomputable def spec_l2Asked.S : Abs.Sum := ⟨spec_l2Asked.P, spec_l2Asked.R, fun _ => Fn spec_l2Asked.E spec_l2Asked.T spec_l2Asked.C spec_l2Asked.P spec_l2Asked.R spec_l2Asked.X⟩
theorem spec_l2Asked.meets : Meets Try.prog 192 spec_l2Asked.S := meets_tab (S := spec_l2Asked.U) tabOk_all (AllMeets.cons spec_l1Good.meets (AllMeets.cons spec_l2Hunks.meets AllMeets.nil)) (AllStill.cons (fun _ _ _ => rfl) (AllStill.cons (fun _ _ _ => rfl) AllStill.nil)) follows (by kernel_rfl : Try.prog.funcs[192]? = some Try.f192) (by kernel_rfl) (by kernel_rfl) (by kernel_rfl)
noncomputable def spec_l2Patch.C : Code := Try.f163.body.getD .skip
def spec_l2Patch.P : Par := (.cons (.val (.list .str)) (.cons (.val (.list (.pair (.int .i64) (.pair (.int .i64) (.one (.list .str)))))) .nil))
noncomputable def spec_l2Patch.U : SumTab := []
noncomputable def spec_l2Patch.E : Env := mkEnv TY AR spec_l2Patch.U
def spec_l2Patch.D8 : CutD := ⟨[0, 5, 6, 9, 10, 11], (.cons (.val (.list .str)) (.cons (.own 9 .str) (.cons (.val (.int .i64)) (.cons (.val (.list (.pair (.int .i64) (.pair (.int .i64) (.one (.list .str)))))) (.cons (.val (.int .i64)) (.cons (.val (.int .i64)) .nil))))))⟩
noncomputable def spec_l2Patch.T : Tab := fun k => look k [(8, spec_l2Patch.D8)]
def spec_l2Patch.R : List (Nat × Ty) := [(9, .list .str)]
def spec_l2Patch.X : List ResultVar := [.tmp 4]
noncomputable def spec_l2Patch.K := fin spec_l2Patch.E ⟨spec_l2Patch.P, spec_l2Patch.R, fun _ _ => none⟩ spec_l2Patch.X spec_l2Patch.P.len 0
noncomputable def spec_l2Patch.l8 (l : List ByteArray) (out : List ByteArray) (t6 : Int) (t9 : List (Int × Int × List ByteArray)) (t10 : Int) (t11 : Int) : Option ((List ByteArray)) := fixP spec_l2Patch.E spec_l2Patch.T spec_l2Patch.C spec_l2Patch.K 8 spec_l2Patch.D8 (l, out, t6, t9, t10, t11)
noncomputable def spec_l2Patch.f (l : List ByteArray) (h : List (Int × Int × List ByteArray)) : Option ((List ByteArray)) := Fn spec_l2Patch.E spec_l2Patch.T spec_l2Patch.C spec_l2Patch.P spec_l2Patch.R spec_l2Patch.X (l, h)
theorem spec_l2Patch.l8_eq (l : List ByteArray) (out : List ByteArray) (t6 : Int) (t9 : List (Int × Int × List ByteArray)) (t10 : Int) (t11 : Int) : spec_l2Patch.l8 l out t6 t9 t10 t11 =
  (bif (decide (t11 < t10)) then (bif ((decide (0 ≤ t11)) && (decide (t11 < (t9.length : Int)))) then (bif ((decide (0 ≤ t6)) && ((decide (t6 ≤ (t9.getD (t11).toNat (0, 0, ([] : List ByteArray))).1)) && (decide ((t9.getD (t11).toNat (0, 0, ([] : List ByteArray))).1 ≤ (l.length : Int))))) then (bif (decide ((out.length + ((l.take ((t9.getD (t11).toNat (0, 0, ([] : List ByteArray))).1).toNat).drop (t6).toNat).length) ≤ room 16)) then (bif (decide (((out ++ ((l.take ((t9.getD (t11).toNat (0, 0, ([] : List ByteArray))).1).toNat).drop (t6).toNat)).length + (t9.getD (t11).toNat (0, 0, ([] : List ByteArray))).2.2.length) ≤ room 16)) then (spec_l2Patch.l8 l ((out ++ ((l.take ((t9.getD (t11).toNat (0, 0, ([] : List ByteArray))).1).toNat).drop (t6).toNat)) ++ (t9.getD (t11).toNat (0, 0, ([] : List ByteArray))).2.2) (w64 ((t9.getD (t11).toNat (0, 0, ([] : List ByteArray))).1 + (t9.getD (t11).toNat (0, 0, ([] : List ByteArray))).2.1)) t9 t10 (w64 (t11 + 1))) else none) else none) else none) else none) else
  (bif ((decide (0 ≤ t6)) && (decide (t6 ≤ (l.length : Int)))) then (bif (decide ((out.length + (l.drop (t6).toNat).length) ≤ room 16)) then (some (out ++ (l.drop (t6).toNat))) else none) else none)) :=
  (fixP_eq spec_l2Patch.E spec_l2Patch.T spec_l2Patch.C spec_l2Patch.K 8 spec_l2Patch.D8 (l, out, t6, t9, t10, t11)).trans (by kernel_rfl)
theorem spec_l2Patch.f_eq (l : List ByteArray) (h : List (Int × Int × List ByteArray)) : spec_l2Patch.f l h =
  (spec_l2Patch.l8 l ([] : List ByteArray) 0 h (h.length : Int) 0) := by kernel_rfl
noncomputable def spec_l2Patch.S : Abs.Sum := ⟨spec_l2Patch.P, spec_l2Patch.R, fun _ => Fn spec_l2Patch.E spec_l2Patch.T spec_l2Patch.C spec_l2Patch.P spec_l2Patch.R spec_l2Patch.X⟩
theorem spec_l2Patch.meets : Meets Try.prog 163 spec_l2Patch.S := meets_tab (S := spec_l2Patch.U) tabOk_all AllMeets.nil AllStill.nil follows (by kernel_rfl : Try.prog.funcs[163]? = some Try.f163) (by kernel_rfl) (by kernel_rfl) (by kernel_rfl)
noncomputable def spec_Patch.C : Code := Try.f138.body.getD .skip
def spec_Patch.P : Par := (.cons (.val (.list .str)) (.cons (.val (.list (.pair (.int .i64) (.pair (.int .i64) (.one (.list .str)))))) .nil))
noncomputable def spec_Patch.U : SumTab := [(192, [], spec_l2Asked.S), (163, [], spec_l2Patch.S), (84, [], spec_l1Good.S)]
noncomputable def spec_Patch.E : Env := mkEnv TY AR spec_Patch.U
noncomputable def spec_Patch.T : Tab := fun k => look k []
def spec_Patch.R : List (Nat × Ty) := [(9, .list .str), (0, .bool)]
def spec_Patch.X : List ResultVar := [.tmp 4, .tmp 5]
noncomputable def spec_Patch.f (l : List ByteArray) (h : List (Int × Int × List ByteArray)) : Option ((List ByteArray) × Bool) := Fn spec_Patch.E spec_Patch.T spec_Patch.C spec_Patch.P spec_Patch.R spec_Patch.X (l, h)
theorem spec_Patch.f_eq (l : List ByteArray) (h : List (Int × Int × List ByteArray)) : spec_Patch.f l h =
  ((spec_l2Asked.f l h).bind fun y1 =>
  bif (!y1) then (some (([] : List ByteArray), false)) else
  ((spec_l2Patch.f l h).bind fun y2 =>
   (spec_l1Good.f y2).bind fun y3 =>
   bif (!y3) then (some (([] : List ByteArray), false)) else (some (y2, true)))) := by kernel_rfl
noncomputable def spec_Patch.S : Abs.Sum := ⟨spec_Patch.P, spec_Patch.R, fun _ => Fn spec_Patch.E spec_Patch.T spec_Patch.C spec_Patch.P spec_Patch.R spec_Patch.X⟩
theorem spec_Patch.meets : Meets Try.prog 138 spec_Patch.S := meets_tab (S := spec_Patch.U) tabOk_all (AllMeets.cons spec_l2Asked.meets (AllMeets.cons spec_l2Patch.meets (AllMeets.cons spec_l1Good.meets AllMeets.nil))) (AllStill.cons (fun _ _ _ => rfl) (AllStill.cons (fun _ _ _ => rfl) (AllStill.cons (fun _ _ _ => rfl) AllStill.nil))) follows (by kernel_rfl : Try.prog.funcs[138]? = some Try.f138) (by kernel_rfl) (by kernel_rfl) (by kernel_rfl)
noncomputable def spec_l1OwnT.C : Code := Try.f122.body.getD .skip
def spec_l1OwnT.P : Par := (.cons (.val (.list .str)) .nil)
noncomputable def spec_l1OwnT.U : SumTab := []
noncomputable def spec_l1OwnT.E : Env := mkEnv TY AR spec_l1OwnT.U
noncomputable def spec_l1OwnT.T : Tab := fun k => look k []
def spec_l1OwnT.R : List (Nat × Ty) := [(9, .list .str)]
def spec_l1OwnT.X : List ResultVar := [.tmp 2]
noncomputable def spec_l1OwnT.f (l : List ByteArray) : Option ((List ByteArray)) := Fn spec_l1OwnT.E spec_l1OwnT.T spec_l1OwnT.C spec_l1OwnT.P spec_l1OwnT.R spec_l1OwnT.X l
theorem spec_l1OwnT.f_eq (l : List ByteArray) : spec_l1OwnT.f l =
  (bif (decide ((([] : List ByteArray).length + l.length) ≤ room 16)) then (some (([] : List ByteArray) ++ l)) else none) := by kernel_rfl
noncomputable def spec_l1OwnT.S : Abs.Sum := ⟨spec_l1OwnT.P, spec_l1OwnT.R, fun _ => Fn spec_l1OwnT.E spec_l1OwnT.T spec_l1OwnT.C spec_l1OwnT.P spec_l1OwnT.R spec_l1OwnT.X⟩
theorem spec_l1OwnT.meets : Meets Try.prog 122 spec_l1OwnT.S := meets_tab (S := spec_l1OwnT.U) tabOk_all AllMeets.nil AllStill.nil follows (by kernel_rfl : Try.prog.funcs[122]? = some Try.f122) (by kernel_rfl) (by kernel_rfl) (by kernel_rfl)
noncomputable def spec_l1Most.C : Code := Try.f148.body.getD .skip
def spec_l1Most.P : Par := (.cons (.val (.int .i64)) (.cons (.val (.int .i64)) .nil))
noncomputable def spec_l1Most.U : SumTab := []
noncomputable def spec_l1Most.E : Env := mkEnv TY AR spec_l1Most.U
noncomputable def spec_l1Most.T : Tab := fun k => look k []
def spec_l1Most.R : List (Nat × Ty) := [(0, .int .i64)]
def spec_l1Most.X : List ResultVar := [.tmp 4]
noncomputable def spec_l1Most.f (a : Int) (b : Int) : Option (Int) := Fn spec_l1Most.E spec_l1Most.T spec_l1Most.C spec_l1Most.P spec_l1Most.R spec_l1Most.X (a, b)
theorem spec_l1Most.f_eq (a : Int) (b : Int) : spec_l1Most.f a b =
  (bif (decide (a > b)) then (some a) else (some b)) := by kernel_rfl
noncomputable def spec_l1Most.S : Abs.Sum := ⟨spec_l1Most.P, spec_l1Most.R, fun _ => Fn spec_l1Most.E spec_l1Most.T spec_l1Most.C spec_l1Most.P spec_l1Most.R spec_l1Most.X⟩
theorem spec_l1Most.meets : Meets Try.prog 148 spec_l1Most.S := meets_tab (S := spec_l1Most.U) tabOk_all AllMeets.nil AllStill.nil follows (by kernel_rfl : Try.prog.funcs[148]? = some Try.f148) (by kernel_rfl) (by kernel_rfl) (by kernel_rfl)
noncomputable def impl_in.C : Code := Try.f98.body.getD .skip
def impl_in.P : Par := (.cons (.val (.int .i64)) (.cons (.val (.int .i64)) (.cons (.val (.int .i64)) .nil)))
noncomputable def impl_in.U : SumTab := []
noncomputable def impl_in.E : Env := mkEnv TY AR impl_in.U
noncomputable def impl_in.T : Tab := fun k => look k []
def impl_in.R : List (Nat × Ty) := [(0, .bool)]
def impl_in.X : List ResultVar := [.tmp 6]
noncomputable def impl_in.f (n : Int) (low : Int) (high : Int) : Option (Bool) := Fn impl_in.E impl_in.T impl_in.C impl_in.P impl_in.R impl_in.X (n, low, high)
theorem impl_in.f_eq (n : Int) (low : Int) (high : Int) : impl_in.f n low high =
  (bif (decide (n ≥ low)) then (some (decide (n ≤ high))) else (some false)) := by kernel_rfl
noncomputable def impl_in.S : Abs.Sum := ⟨impl_in.P, impl_in.R, fun _ => Fn impl_in.E impl_in.T impl_in.C impl_in.P impl_in.R impl_in.X⟩
theorem impl_in.meets : Meets Try.prog 98 impl_in.S := meets_tab (S := impl_in.U) tabOk_all AllMeets.nil AllStill.nil follows (by kernel_rfl : Try.prog.funcs[98]? = some Try.f98) (by kernel_rfl) (by kernel_rfl) (by kernel_rfl)
noncomputable def impl_isLine.C : Code := Try.f172.body.getD .skip
def impl_isLine.P : Par := (.cons (.val .str) .nil)
noncomputable def impl_isLine.U : SumTab := [(98, [], impl_in.S), (211, [], strings_Contains.S)]
noncomputable def impl_isLine.E : Env := mkEnv TY AR impl_isLine.U
noncomputable def impl_isLine.T : Tab := fun k => look k []
def impl_isLine.R : List (Nat × Ty) := [(0, .bool)]
def impl_isLine.X : List ResultVar := [.tmp 2]
noncomputable def impl_isLine.f (line : ByteArray) : Option (Bool) := Fn impl_isLine.E impl_isLine.T impl_isLine.C impl_isLine.P impl_isLine.R impl_isLine.X line
theorem impl_isLine.f_eq (line : ByteArray) : impl_isLine.f line =
  ((impl_in.f (line.size : Int) 1 30).bind fun y1 =>
  bif y1 then (bif ((decide (0 ≤ (w64 ((line.size : Int) - 1)))) && (decide ((w64 ((line.size : Int) - 1)) ≤ (line.size : Int)))) then ((strings_Contains.f (line.extract 0 ((w64 ((line.size : Int) - 1))).toNat) (⟨#[10]⟩ : ByteArray)).bind fun y2 =>
    some (!y2)) else none) else (some false)) := by kernel_rfl
noncomputable def impl_isLine.S : Abs.Sum := ⟨impl_isLine.P, impl_isLine.R, fun _ => Fn impl_isLine.E impl_isLine.T impl_isLine.C impl_isLine.P impl_isLine.R impl_isLine.X⟩
theorem impl_isLine.meets : Meets Try.prog 172 impl_isLine.S := meets_tab (S := impl_isLine.U) tabOk_all (AllMeets.cons impl_in.meets (AllMeets.cons strings_Contains.meets AllMeets.nil)) (AllStill.cons (fun _ _ _ => rfl) (AllStill.cons (fun _ _ _ => rfl) AllStill.nil)) follows (by kernel_rfl : Try.prog.funcs[172]? = some Try.f172) (by kernel_rfl) (by kernel_rfl) (by kernel_rfl)
noncomputable def impl_areLines_1.C : Code := Try.f218.body.getD .skip
def impl_areLines_1.P : Par := (.cons (.val .str) .nil)
noncomputable def impl_areLines_1.U : SumTab := [(172, [], impl_isLine.S)]
noncomputable def impl_areLines_1.E : Env := mkEnv TY AR impl_areLines_1.U
noncomputable def impl_areLines_1.T : Tab := fun k => look k []
def impl_areLines_1.R : List (Nat × Ty) := [(0, .bool)]
def impl_areLines_1.X : List ResultVar := [.tmp 2]
noncomputable def impl_areLines_1.f (line : ByteArray) : Option (Bool) := Fn impl_areLines_1.E impl_areLines_1.T impl_areLines_1.C impl_areLines_1.P impl_areLines_1.R impl_areLines_1.X line
theorem impl_areLines_1.f_eq (line : ByteArray) : impl_areLines_1.f line =
  ((impl_isLine.f line).bind fun y1 =>
  some (!y1)) := by kernel_rfl
noncomputable def impl_areLines_1.S : Abs.Sum := ⟨impl_areLines_1.P, impl_areLines_1.R, fun _ => Fn impl_areLines_1.E impl_areLines_1.T impl_areLines_1.C impl_areLines_1.P impl_areLines_1.R impl_areLines_1.X⟩
theorem impl_areLines_1.meets : Meets Try.prog 218 impl_areLines_1.S := meets_tab (S := impl_areLines_1.U) tabOk_all (AllMeets.cons impl_isLine.meets AllMeets.nil) (AllStill.cons (fun _ _ _ => rfl) AllStill.nil) follows (by kernel_rfl : Try.prog.funcs[218]? = some Try.f218) (by kernel_rfl) (by kernel_rfl) (by kernel_rfl)
noncomputable def slices_IndexFunc_Lstring_string__impl_areLines_1.C : Code := Try.f233.body.getD .skip
def slices_IndexFunc_Lstring_string__impl_areLines_1.P : Par := (.cons (.val (.list .str)) (.cons (.fn 218 .nil) .nil))
noncomputable def slices_IndexFunc_Lstring_string__impl_areLines_1.U : SumTab := [(218, [], impl_areLines_1.S)]
noncomputable def slices_IndexFunc_Lstring_string__impl_areLines_1.E : Env := mkEnv TY AR slices_IndexFunc_Lstring_string__impl_areLines_1.U
def slices_IndexFunc_Lstring_string__impl_areLines_1.D4 : CutD := ⟨[0, 1, 7, 8], (.cons (.val (.list .str)) (.cons (.fn 218 .nil) (.cons (.val (.int .i64)) (.cons (.val (.int .i64)) .nil))))⟩
noncomputable def slices_IndexFunc_Lstring_string__impl_areLines_1.T : Tab := fun k => look k [(4, slices_IndexFunc_Lstring_string__impl_areLines_1.D4)]
def slices_IndexFunc_Lstring_string__impl_areLines_1.R : List (Nat × Ty) := [(0, .int .i64)]
def slices_IndexFunc_Lstring_string__impl_areLines_1.X : List ResultVar := [.tmp 4]
noncomputable def slices_IndexFunc_Lstring_string__impl_areLines_1.K := fin slices_IndexFunc_Lstring_string__impl_areLines_1.E ⟨slices_IndexFunc_Lstring_string__impl_areLines_1.P, slices_IndexFunc_Lstring_string__impl_areLines_1.R, fun _ _ => none⟩ slices_IndexFunc_Lstring_string__impl_areLines_1.X slices_IndexFunc_Lstring_string__impl_areLines_1.P.len 0
noncomputable def slices_IndexFunc_Lstring_string__impl_areLines_1.l4 (s : List ByteArray) (t7 : Int) (t8 : Int) : Option (Int) := fixP slices_IndexFunc_Lstring_string__impl_areLines_1.E slices_IndexFunc_Lstring_string__impl_areLines_1.T slices_IndexFunc_Lstring_string__impl_areLines_1.C slices_IndexFunc_Lstring_string__impl_areLines_1.K 4 slices_IndexFunc_Lstring_string__impl_areLines_1.D4 (s, t7, t8)
noncomputable def slices_IndexFunc_Lstring_string__impl_areLines_1.f (s : List ByteArray) : Option (Int) := Fn slices_IndexFunc_Lstring_string__impl_areLines_1.E slices_IndexFunc_Lstring_string__impl_areLines_1.T slices_IndexFunc_Lstring_string__impl_areLines_1.C slices_IndexFunc_Lstring_string__impl_areLines_1.P slices_IndexFunc_Lstring_string__impl_areLines_1.R slices_IndexFunc_Lstring_string__impl_areLines_1.X s
theorem slices_IndexFunc_Lstring_string__impl_areLines_1.l4_eq (s : List ByteArray) (t7 : Int) (t8 : Int) : slices_IndexFunc_Lstring_string__impl_areLines_1.l4 s t7 t8 =
  (bif (decide (t8 < t7)) then (bif ((decide (0 ≤ t8)) && (decide (t8 < (s.length : Int)))) then ((impl_areLines_1.f (s.getD (t8).toNat em)).bind fun y1 =>
    bif y1 then (some t8) else
    (slices_IndexFunc_Lstring_string__impl_areLines_1.l4 s t7 (w64 (t8 + 1)))) else none) else (some (-1))) :=
  (fixP_eq slices_IndexFunc_Lstring_string__impl_areLines_1.E slices_IndexFunc_Lstring_string__impl_areLines_1.T slices_IndexFunc_Lstring_string__impl_areLines_1.C slices_IndexFunc_Lstring_string__impl_areLines_1.K 4 slices_IndexFunc_Lstring_string__impl_areLines_1.D4 (s, t7, t8)).trans (by kernel_rfl)
theorem slices_IndexFunc_Lstring_string__impl_areLines_1.f_eq (s : List ByteArray) : slices_IndexFunc_Lstring_string__impl_areLines_1.f s =
  (slices_IndexFunc_Lstring_string__impl_areLines_1.l4 s (s.length : Int) 0) := by kernel_rfl
noncomputable def slices_IndexFunc_Lstring_string__impl_areLines_1.S : Abs.Sum := ⟨slices_IndexFunc_Lstring_string__impl_areLines_1.P, slices_IndexFunc_Lstring_string__impl_areLines_1.R, fun _ => Fn slices_IndexFunc_Lstring_string__impl_areLines_1.E slices_IndexFunc_Lstring_string__impl_areLines_1.T slices_IndexFunc_Lstring_string__impl_areLines_1.C slices_IndexFunc_Lstring_string__impl_areLines_1.P slices_IndexFunc_Lstring_string__impl_areLines_1.R slices_IndexFunc_Lstring_string__impl_areLines_1.X⟩
theorem slices_IndexFunc_Lstring_string__impl_areLines_1.meets : Meets Try.prog 233 slices_IndexFunc_Lstring_string__impl_areLines_1.S := meets_tab (S := slices_IndexFunc_Lstring_string__impl_areLines_1.U) tabOk_all (AllMeets.cons impl_areLines_1.meets AllMeets.nil) (AllStill.cons (fun _ _ _ => rfl) AllStill.nil) follows (by kernel_rfl : Try.prog.funcs[233]? = some Try.f233) (by kernel_rfl) (by kernel_rfl) (by kernel_rfl)
noncomputable def slices_ContainsFunc_Lstring_string__impl_areLines_1.C : Code := Try.f217.body.getD .skip
def slices_ContainsFunc_Lstring_string__impl_areLines_1.P : Par := (.cons (.val (.list .str)) (.cons (.fn 218 .nil) .nil))
noncomputable def slices_ContainsFunc_Lstring_string__impl_areLines_1.U : SumTab := [(233, [218], slices_IndexFunc_Lstring_string__impl_areLines_1.S)]
noncomputable def slices_ContainsFunc_Lstring_string__impl_areLines_1.E : Env := mkEnv TY AR slices_ContainsFunc_Lstring_string__impl_areLines_1.U
noncomputable def slices_ContainsFunc_Lstring_string__impl_areLines_1.T : Tab := fun k => look k []
def slices_ContainsFunc_Lstring_string__impl_areLines_1.R : List (Nat × Ty) := [(0, .bool)]
def slices_ContainsFunc_Lstring_string__impl_areLines_1.X : List ResultVar := [.tmp 4]
noncomputable def slices_ContainsFunc_Lstring_string__impl_areLines_1.f (s : List ByteArray) : Option (Bool) := Fn slices_ContainsFunc_Lstring_string__impl_areLines_1.E slices_ContainsFunc_Lstring_string__impl_areLines_1.T slices_ContainsFunc_Lstring_string__impl_areLines_1.C slices_ContainsFunc_Lstring_string__impl_areLines_1.P slices_ContainsFunc_Lstring_string__impl_areLines_1.R slices_ContainsFunc_Lstring_string__impl_areLines_1.X s
theorem slices_ContainsFunc_Lstring_string__impl_areLines_1.f_eq (s : List ByteArray) : slices_ContainsFunc_Lstring_string__impl_areLines_1.f s =
  ((slices_IndexFunc_Lstring_string__impl_areLines_1.f s).bind fun y1 =>
  some (decide (y1 ≥ 0))) := by kernel_rfl
noncomputable def slices_ContainsFunc_Lstring_string__impl_areLines_1.S : Abs.Sum := ⟨slices_ContainsFunc_Lstring_string__impl_areLines_1.P, slices_ContainsFunc_Lstring_string__impl_areLines_1.R, fun _ => Fn slices_ContainsFunc_Lstring_string__impl_areLines_1.E slices_ContainsFunc_Lstring_string__impl_areLines_1.T slices_ContainsFunc_Lstring_string__impl_areLines_1.C slices_ContainsFunc_Lstring_string__impl_areLines_1.P slices_ContainsFunc_Lstring_string__impl_areLines_1.R slices_ContainsFunc_Lstring_string__impl_areLines_1.X⟩
theorem slices_ContainsFunc_Lstring_string__impl_areLines_1.meets : Meets Try.prog 217 slices_ContainsFunc_Lstring_string__impl_areLines_1.S := meets_tab (S := slices_ContainsFunc_Lstring_string__impl_areLines_1.U) tabOk_all (AllMeets.cons slices_IndexFunc_Lstring_string__impl_areLines_1.meets AllMeets.nil) (AllStill.cons (fun _ _ _ => rfl) AllStill.nil) follows (by kernel_rfl : Try.prog.funcs[217]? = some Try.f217) (by kernel_rfl) (by kernel_rfl) (by kernel_rfl)
noncomputable def impl_areLines.C : Code := Try.f182.body.getD .skip
def impl_areLines.P : Par := (.cons (.val (.list .str)) .nil)
noncomputable def impl_areLines.U : SumTab := [(217, [218], slices_ContainsFunc_Lstring_string__impl_areLines_1.S)]
noncomputable def impl_areLines.E : Env := mkEnv TY AR impl_areLines.U
noncomputable def impl_areLines.T : Tab := fun k => look k []
def impl_areLines.R : List (Nat × Ty) := [(0, .bool)]
def impl_areLines.X : List ResultVar := [.tmp 2]
noncomputable def impl_areLines.f (l : List ByteArray) : Option (Bool) := Fn impl_areLines.E impl_areLines.T impl_areLines.C impl_areLines.P impl_areLines.R impl_areLines.X l
theorem impl_areLines.f_eq (l : List ByteArray) : impl_areLines.f l =
  (bif (decide ((l.length : Int) ≤ 40)) then ((slices_ContainsFunc_Lstring_string__impl_areLines_1.f l).bind fun y1 =>
   some (!y1)) else (some false)) := by kernel_rfl
noncomputable def impl_areLines.S : Abs.Sum := ⟨impl_areLines.P, impl_areLines.R, fun _ => Fn impl_areLines.E impl_areLines.T impl_areLines.C impl_areLines.P impl_areLines.R impl_areLines.X⟩
theorem impl_areLines.meets : Meets Try.prog 182 impl_areLines.S := meets_tab (S := impl_areLines.U) tabOk_all (AllMeets.cons slices_ContainsFunc_Lstring_string__impl_areLines_1.meets AllMeets.nil) (AllStill.cons (fun _ _ _ => rfl) AllStill.nil) follows (by kernel_rfl : Try.prog.funcs[182]? = some Try.f182) (by kernel_rfl) (by kernel_rfl) (by kernel_rfl)
noncomputable def internal_stringslite_HasSuffix.C : Code := Try.f234.body.getD .skip
def internal_stringslite_HasSuffix.P : Par := (.cons (.val .str) (.cons (.val .str) .nil))
noncomputable def internal_stringslite_HasSuffix.U : SumTab := []
noncomputable def internal_stringslite_HasSuffix.E : Env := mkEnv TY AR internal_stringslite_HasSuffix.U
noncomputable def internal_stringslite_HasSuffix.T : Tab := fun k => look k []
def internal_stringslite_HasSuffix.R : List (Nat × Ty) := [(0, .bool)]
def internal_stringslite_HasSuffix.X : List ResultVar := [.tmp 4]
noncomputable def internal_stringslite_HasSuffix.f (s : ByteArray) (suffix : ByteArray) : Option (Bool) := Fn internal_stringslite_HasSuffix.E internal_stringslite_HasSuffix.T internal_stringslite_HasSuffix.C internal_stringslite_HasSuffix.P internal_stringslite_HasSuffix.R internal_stringslite_HasSuffix.X (s, suffix)
theorem internal_stringslite_HasSuffix.f_eq (s : ByteArray) (suffix : ByteArray) : internal_stringslite_HasSuffix.f s suffix =
  (bif (decide ((s.size : Int) ≥ (suffix.size : Int))) then (bif ((decide (0 ≤ (w64 ((s.size : Int) - (suffix.size : Int))))) && (decide ((w64 ((s.size : Int) - (suffix.size : Int))) ≤ (s.size : Int)))) then (some ((s.extract ((w64 ((s.size : Int) - (suffix.size : Int)))).toNat s.size).toList == suffix.toList)) else none) else (some false)) := by kernel_rfl
noncomputable def internal_stringslite_HasSuffix.S : Abs.Sum := ⟨internal_stringslite_HasSuffix.P, internal_stringslite_HasSuffix.R, fun _ => Fn internal_stringslite_HasSuffix.E internal_stringslite_HasSuffix.T internal_stringslite_HasSuffix.C internal_stringslite_HasSuffix.P internal_stringslite_HasSuffix.R internal_stringslite_HasSuffix.X⟩
theorem internal_stringslite_HasSuffix.meets : Meets Try.prog 234 internal_stringslite_HasSuffix.S := meets_tab (S := internal_stringslite_HasSuffix.U) tabOk_all AllMeets.nil AllStill.nil follows (by kernel_rfl : Try.prog.funcs[234]? = some Try.f234) (by kernel_rfl) (by kernel_rfl) (by kernel_rfl)
noncomputable def strings_HasSuffix.C : Code := Try.f219.body.getD .skip
def strings_HasSuffix.P : Par := (.cons (.val .str) (.cons (.val .str) .nil))
noncomputable def strings_HasSuffix.U : SumTab := [(234, [], internal_stringslite_HasSuffix.S)]
noncomputable def strings_HasSuffix.E : Env := mkEnv TY AR strings_HasSuffix.U
noncomputable def strings_HasSuffix.T : Tab := fun k => look k []
def strings_HasSuffix.R : List (Nat × Ty) := [(0, .bool)]
def strings_HasSuffix.X : List ResultVar := [.tmp 4]
noncomputable def strings_HasSuffix.f (s : ByteArray) (suffix : ByteArray) : Option (Bool) := Fn strings_HasSuffix.E strings_HasSuffix.T strings_HasSuffix.C strings_HasSuffix.P strings_HasSuffix.R strings_HasSuffix.X (s, suffix)
theorem strings_HasSuffix.f_eq (s : ByteArray) (suffix : ByteArray) : strings_HasSuffix.f s suffix =
  ((internal_stringslite_HasSuffix.f s suffix).bind fun y1 =>
  some y1) := by kernel_rfl
noncomputable def strings_HasSuffix.S : Abs.Sum := ⟨strings_HasSuffix.P, strings_HasSuffix.R, fun _ => Fn strings_HasSuffix.E strings_HasSuffix.T strings_HasSuffix.C strings_HasSuffix.P strings_HasSuffix.R strings_HasSuffix.X⟩
theorem strings_HasSuffix.meets : Meets Try.prog 219 strings_HasSuffix.S := meets_tab (S := strings_HasSuffix.U) tabOk_all (AllMeets.cons internal_stringslite_HasSuffix.meets AllMeets.nil) (AllStill.cons (fun _ _ _ => rfl) AllStill.nil) follows (by kernel_rfl : Try.prog.funcs[219]? = some Try.f219) (by kernel_rfl) (by kernel_rfl) (by kernel_rfl)
noncomputable def impl_isEnded.C : Code := Try.f183.body.getD .skip
def impl_isEnded.P : Par := (.cons (.val .str) .nil)
noncomputable def impl_isEnded.U : SumTab := [(219, [], strings_HasSuffix.S)]
noncomputable def impl_isEnded.E : Env := mkEnv TY AR impl_isEnded.U
noncomputable def impl_isEnded.T : Tab := fun k => look k []
def impl_isEnded.R : List (Nat × Ty) := [(0, .bool)]
def impl_isEnded.X : List ResultVar := [.tmp 2]
noncomputable def impl_isEnded.f (line : ByteArray) : Option (Bool) := Fn impl_isEnded.E impl_isEnded.T impl_isEnded.C impl_isEnded.P impl_isEnded.R impl_isEnded.X line
theorem impl_isEnded.f_eq (line : ByteArray) : impl_isEnded.f line =
  ((strings_HasSuffix.f line (⟨#[10]⟩ : ByteArray)).bind fun y1 =>
  some y1) := by kernel_rfl
noncomputable def impl_isEnded.S : Abs.Sum := ⟨impl_isEnded.P, impl_isEnded.R, fun _ => Fn impl_isEnded.E impl_isEnded.T impl_isEnded.C impl_isEnded.P impl_isEnded.R impl_isEnded.X⟩
theorem impl_isEnded.meets : Meets Try.prog 183 impl_isEnded.S := meets_tab (S := impl_isEnded.U) tabOk_all (AllMeets.cons strings_HasSuffix.meets AllMeets.nil) (AllStill.cons (fun _ _ _ => rfl) AllStill.nil) follows (by kernel_rfl : Try.prog.funcs[183]? = some Try.f183) (by kernel_rfl) (by kernel_rfl) (by kernel_rfl)
noncomputable def impl_goodLines.C : Code := Try.f127.body.getD .skip
def impl_goodLines.P : Par := (.cons (.val (.list .str)) .nil)
noncomputable def impl_goodLines.U : SumTab := [(182, [], impl_areLines.S), (183, [], impl_isEnded.S)]
noncomputable def impl_goodLines.E : Env := mkEnv TY AR impl_goodLines.U
def impl_goodLines.D8 : CutD := ⟨[0, 8, 9, 10], (.cons (.val (.list .str)) (.cons (.val (.list .str)) (.cons (.val (.int .i64)) (.cons (.val (.int .i64)) .nil))))⟩
noncomputable def impl_goodLines.T : Tab := fun k => look k [(8, impl_goodLines.D8)]
def impl_goodLines.R : List (Nat × Ty) := [(0, .bool)]
def impl_goodLines.X : List ResultVar := [.tmp 2]
noncomputable def impl_goodLines.K := fin impl_goodLines.E ⟨impl_goodLines.P, impl_goodLines.R, fun _ _ => none⟩ impl_goodLines.X impl_goodLines.P.len 0
noncomputable def impl_goodLines.l8 (l : List ByteArray) (t8 : List ByteArray) (t9 : Int) (t10 : Int) : Option (Bool) := fixP impl_goodLines.E impl_goodLines.T impl_goodLines.C impl_goodLines.K 8 impl_goodLines.D8 (l, t8, t9, t10)
noncomputable def impl_goodLines.f (l : List ByteArray) : Option (Bool) := Fn impl_goodLines.E impl_goodLines.T impl_goodLines.C impl_goodLines.P impl_goodLines.R impl_goodLines.X l
theorem impl_goodLines.l8_eq (l : List ByteArray) (t8 : List ByteArray) (t9 : Int) (t10 : Int) : impl_goodLines.l8 l t8 t9 t10 =
  (bif (decide (t10 < t9)) then (bif ((decide (0 ≤ t10)) && (decide (t10 < (t8.length : Int)))) then (bif (decide (t10 < (w64 ((l.length : Int) - 1)))) then ((impl_isEnded.f (t8.getD (t10).toNat em)).bind fun y1 =>
     bif (!y1) then (some false) else
     (impl_goodLines.l8 l t8 t9 (w64 (t10 + 1)))) else
    (impl_goodLines.l8 l t8 t9 (w64 (t10 + 1)))) else none) else (some true)) :=
  (fixP_eq impl_goodLines.E impl_goodLines.T impl_goodLines.C impl_goodLines.K 8 impl_goodLines.D8 (l, t8, t9, t10)).trans (by kernel_rfl)
theorem impl_goodLines.f_eq (l : List ByteArray) : impl_goodLines.f l =
  ((impl_areLines.f l).bind fun y1 =>
  bif (!y1) then (some false) else
  (impl_goodLines.l8 l l (l.length : Int) 0)) := by kernel_rfl
noncomputable def impl_goodLines.S : Abs.Sum := ⟨impl_goodLines.P, impl_goodLines.R, fun _ => Fn impl_goodLines.E impl_goodLines.T impl_goodLines.C impl_goodLines.P impl_goodLines.R impl_goodLines.X⟩
theorem impl_goodLines.meets : Meets Try.prog 127 impl_goodLines.S := meets_tab (S := impl_goodLines.U) tabOk_all (AllMeets.cons impl_areLines.meets (AllMeets.cons impl_isEnded.meets AllMeets.nil)) (AllStill.cons (fun _ _ _ => rfl) (AllStill.cons (fun _ _ _ => rfl) AllStill.nil)) follows (by kernel_rfl : Try.prog.funcs[127]? = some Try.f127) (by kernel_rfl) (by kernel_rfl) (by kernel_rfl)
noncomputable def impl_goodHunks.C : Code := Try.f167.body.getD .skip
def impl_goodHunks.P : Par := (.cons (.val (.int .i64)) (.cons (.val (.list (.pair (.int .i64) (.pair (.int .i64) (.one (.list .str)))))) .nil))
noncomputable def impl_goodHunks.U : SumTab := [(98, [], impl_in.S), (182, [], impl_areLines.S)]
noncomputable def impl_goodHunks.E : Env := mkEnv TY AR impl_goodHunks.U
def impl_goodHunks.D7 : CutD := ⟨[0, 1], (.cons (.val (.int .i64)) (.cons (.val (.list (.pair (.int .i64) (.pair (.int .i64) (.one (.list .str)))))) .nil))⟩
def impl_goodHunks.D8 : CutD := ⟨[0, 1, 15, 16, 17], (.cons (.val (.int .i64)) (.cons (.val (.list (.pair (.int .i64) (.pair (.int .i64) (.one (.list .str)))))) (.cons (.val (.list (.pair (.int .i64) (.pair (.int .i64) (.one (.list .str)))))) (.cons (.val (.int .i64)) (.cons (.val (.int .i64)) .nil)))))⟩
def impl_goodHunks.D17 : CutD := ⟨[0, 1, 5, 6, 15, 16, 17], (.cons (.val (.int .i64)) (.cons (.val (.list (.pair (.int .i64) (.pair (.int .i64) (.one (.list .str)))))) (.cons (.val (.int .i64)) (.cons (.box 0 (.pair (.int .i64) (.pair (.int .i64) (.one (.list .str))))) (.cons (.val (.list (.pair (.int .i64) (.pair (.int .i64) (.one (.list .str)))))) (.cons (.val (.int .i64)) (.cons (.val (.int .i64)) .nil)))))))⟩
noncomputable def impl_goodHunks.T : Tab := fun k => look k [(7, impl_goodHunks.D7), (8, impl_goodHunks.D8), (17, impl_goodHunks.D17)]
def impl_goodHunks.R : List (Nat × Ty) := [(0, .bool)]
def impl_goodHunks.X : List ResultVar := [.tmp 4]
noncomputable def impl_goodHunks.K := fin impl_goodHunks.E ⟨impl_goodHunks.P, impl_goodHunks.R, fun _ _ => none⟩ impl_goodHunks.X impl_goodHunks.P.len 0
noncomputable def impl_goodHunks.l7 (many : Int) (h : List (Int × Int × List ByteArray)) : Option (Bool) := fixP impl_goodHunks.E impl_goodHunks.T impl_goodHunks.C impl_goodHunks.K 7 impl_goodHunks.D7 (many, h)
noncomputable def impl_goodHunks.l8 (many : Int) (h : List (Int × Int × List ByteArray)) (t15 : List (Int × Int × List ByteArray)) (t16 : Int) (t17 : Int) : Option (Bool) := fixP impl_goodHunks.E impl_goodHunks.T impl_goodHunks.C impl_goodHunks.K 8 impl_goodHunks.D8 (many, h, t15, t16, t17)
noncomputable def impl_goodHunks.l17 (many : Int) (h : List (Int × Int × List ByteArray)) (i : Int) (x : Int × Int × List ByteArray) (t15 : List (Int × Int × List ByteArray)) (t16 : Int) (t17 : Int) : Option (Bool) := fixP impl_goodHunks.E impl_goodHunks.T impl_goodHunks.C impl_goodHunks.K 17 impl_goodHunks.D17 (many, h, i, x, t15, t16, t17)
noncomputable def impl_goodHunks.f (many : Int) (h : List (Int × Int × List ByteArray)) : Option (Bool) := Fn impl_goodHunks.E impl_goodHunks.T impl_goodHunks.C impl_goodHunks.P impl_goodHunks.R impl_goodHunks.X (many, h)
theorem impl_goodHunks.l7_eq (many : Int) (h : List (Int × Int × List ByteArray)) : impl_goodHunks.l7 many h =
  (impl_goodHunks.l8 many h h (h.length : Int) 0) :=
  (fixP_eq impl_goodHunks.E impl_goodHunks.T impl_goodHunks.C impl_goodHunks.K 7 impl_goodHunks.D7 (many, h)).trans (by kernel_rfl)
theorem impl_goodHunks.l8_eq (many : Int) (h : List (Int × Int × List ByteArray)) (t15 : List (Int × Int × List ByteArray)) (t16 : Int) (t17 : Int) : impl_goodHunks.l8 many h t15 t16 t17 =
  (bif (decide (t17 < t16)) then (bif ((decide (0 ≤ t17)) && (decide (t17 < (t15.length : Int)))) then ((impl_in.f (t15.getD (t17).toNat (0, 0, ([] : List ByteArray))).1 0 many).bind fun y1 =>
    bif (!y1) then (some false) else
    ((impl_in.f (t15.getD (t17).toNat (0, 0, ([] : List ByteArray))).2.1 0 (w64 (many - (t15.getD (t17).toNat (0, 0, ([] : List ByteArray))).1))).bind fun y2 =>
     bif (!y2) then (some false) else
     ((impl_areLines.f (t15.getD (t17).toNat (0, 0, ([] : List ByteArray))).2.2).bind fun y3 =>
      bif (!y3) then (some false) else
      (bif (decide ((t15.getD (t17).toNat (0, 0, ([] : List ByteArray))).2.1 = 0)) then (bif (decide (((t15.getD (t17).toNat (0, 0, ([] : List ByteArray))).2.2.length : Int) = 0)) then (some false) else
        (impl_goodHunks.l17 many h t17 (t15.getD (t17).toNat (0, 0, ([] : List ByteArray))) t15 t16 t17)) else
       (impl_goodHunks.l17 many h t17 (t15.getD (t17).toNat (0, 0, ([] : List ByteArray))) t15 t16 t17))))) else none) else (some true)) :=
  (fixP_eq impl_goodHunks.E impl_goodHunks.T impl_goodHunks.C impl_goodHunks.K 8 impl_goodHunks.D8 (many, h, t15, t16, t17)).trans (by kernel_rfl)
theorem impl_goodHunks.l17_eq (many : Int) (h : List (Int × Int × List ByteArray)) (i : Int) (x : Int × Int × List ByteArray) (t15 : List (Int × Int × List ByteArray)) (t16 : Int) (t17 : Int) : impl_goodHunks.l17 many h i x t15 t16 t17 =
  (bif (decide (i > 0)) then (bif ((decide (0 ≤ (w64 (i - 1)))) && (decide ((w64 (i - 1)) < (h.length : Int)))) then (bif ((decide (0 ≤ (w64 (i - 1)))) && (decide ((w64 (i - 1)) < (h.length : Int)))) then (bif (decide (x.1 ≤ (w64 ((h.getD ((w64 (i - 1))).toNat (0, 0, ([] : List ByteArray))).1 + (h.getD ((w64 (i - 1))).toNat (0, 0, ([] : List ByteArray))).2.1)))) then (some false) else
     (impl_goodHunks.l8 many h t15 t16 (w64 (t17 + 1)))) else none) else none) else
  (impl_goodHunks.l8 many h t15 t16 (w64 (t17 + 1)))) :=
  (fixP_eq impl_goodHunks.E impl_goodHunks.T impl_goodHunks.C impl_goodHunks.K 17 impl_goodHunks.D17 (many, h, i, x, t15, t16, t17)).trans (by kernel_rfl)
theorem impl_goodHunks.f_eq (many : Int) (h : List (Int × Int × List ByteArray)) : impl_goodHunks.f many h =
  ((impl_in.f many 0 40).bind fun y1 =>
  bif (!y1) then (some false) else
  (bif (decide ((h.length : Int) > 20)) then (some false) else
   (impl_goodHunks.l7 many h))) := by kernel_rfl
noncomputable def impl_goodHunks.S : Abs.Sum := ⟨impl_goodHunks.P, impl_goodHunks.R, fun _ => Fn impl_goodHunks.E impl_goodHunks.T impl_goodHunks.C impl_goodHunks.P impl_goodHunks.R impl_goodHunks.X⟩
theorem impl_goodHunks.meets : Meets Try.prog 167 impl_goodHunks.S := meets_tab (S := impl_goodHunks.U) tabOk_all (AllMeets.cons impl_in.meets (AllMeets.cons impl_areLines.meets AllMeets.nil)) (AllStill.cons (fun _ _ _ => rfl) (AllStill.cons (fun _ _ _ => rfl) AllStill.nil)) follows (by kernel_rfl : Try.prog.funcs[167]? = some Try.f167) (by kernel_rfl) (by kernel_rfl) (by kernel_rfl)
noncomputable def impl_patched.C : Code := Try.f190.body.getD .skip
def impl_patched.P : Par := (.cons (.val (.list .str)) (.cons (.val (.list (.pair (.int .i64) (.pair (.int .i64) (.one (.list .str)))))) .nil))
noncomputable def impl_patched.U : SumTab := []
noncomputable def impl_patched.E : Env := mkEnv TY AR impl_patched.U
def impl_patched.D6 : CutD := ⟨[0, 5, 6, 10, 11, 12], (.cons (.val (.list .str)) (.cons (.own 9 .str) (.cons (.val (.int .i64)) (.cons (.val (.list (.pair (.int .i64) (.pair (.int .i64) (.one (.list .str)))))) (.cons (.val (.int .i64)) (.cons (.val (.int .i64)) .nil))))))⟩
noncomputable def impl_patched.T : Tab := fun k => look k [(6, impl_patched.D6)]
def impl_patched.R : List (Nat × Ty) := [(9, .list .str)]
def impl_patched.X : List ResultVar := [.tmp 4]
noncomputable def impl_patched.K := fin impl_patched.E ⟨impl_patched.P, impl_patched.R, fun _ _ => none⟩ impl_patched.X impl_patched.P.len 0
noncomputable def impl_patched.l6 (l : List ByteArray) (out : List ByteArray) (t6 : Int) (t10 : List (Int × Int × List ByteArray)) (t11 : Int) (t12 : Int) : Option ((List ByteArray)) := fixP impl_patched.E impl_patched.T impl_patched.C impl_patched.K 6 impl_patched.D6 (l, out, t6, t10, t11, t12)
noncomputable def impl_patched.f (l : List ByteArray) (h : List (Int × Int × List ByteArray)) : Option ((List ByteArray)) := Fn impl_patched.E impl_patched.T impl_patched.C impl_patched.P impl_patched.R impl_patched.X (l, h)
theorem impl_patched.l6_eq (l : List ByteArray) (out : List ByteArray) (t6 : Int) (t10 : List (Int × Int × List ByteArray)) (t11 : Int) (t12 : Int) : impl_patched.l6 l out t6 t10 t11 t12 =
  (bif (decide (t12 < t11)) then (bif ((decide (0 ≤ t12)) && (decide (t12 < (t10.length : Int)))) then (bif ((decide (0 ≤ t6)) && ((decide (t6 ≤ (t10.getD (t12).toNat (0, 0, ([] : List ByteArray))).1)) && (decide ((t10.getD (t12).toNat (0, 0, ([] : List ByteArray))).1 ≤ (l.length : Int))))) then (bif (decide ((out.length + ((l.take ((t10.getD (t12).toNat (0, 0, ([] : List ByteArray))).1).toNat).drop (t6).toNat).length) ≤ room 16)) then (bif (decide (((out ++ ((l.take ((t10.getD (t12).toNat (0, 0, ([] : List ByteArray))).1).toNat).drop (t6).toNat)).length + (t10.getD (t12).toNat (0, 0, ([] : List ByteArray))).2.2.length) ≤ room 16)) then (impl_patched.l6 l ((out ++ ((l.take ((t10.getD (t12).toNat (0, 0, ([] : List ByteArray))).1).toNat).drop (t6).toNat)) ++ (t10.getD (t12).toNat (0, 0, ([] : List ByteArray))).2.2) (w64 ((t10.getD (t12).toNat (0, 0, ([] : List ByteArray))).1 + (t10.getD (t12).toNat (0, 0, ([] : List ByteArray))).2.1)) t10 t11 (w64 (t12 + 1))) else none) else none) else none) else none) else
  (bif ((decide (0 ≤ t6)) && (decide (t6 ≤ (l.length : Int)))) then (bif (decide ((out.length + (l.drop (t6).toNat).length) ≤ room 16)) then (some (out ++ (l.drop (t6).toNat))) else none) else none)) :=
  (fixP_eq impl_patched.E impl_patched.T impl_patched.C impl_patched.K 6 impl_patched.D6 (l, out, t6, t10, t11, t12)).trans (by kernel_rfl)
theorem impl_patched.f_eq (l : List ByteArray) (h : List (Int × Int × List ByteArray)) : impl_patched.f l h =
  (impl_patched.l6 l ([] : List ByteArray) 0 h (h.length : Int) 0) := by kernel_rfl
noncomputable def impl_patched.S : Abs.Sum := ⟨impl_patched.P, impl_patched.R, fun _ => Fn impl_patched.E impl_patched.T impl_patched.C impl_patched.P impl_patched.R impl_patched.X⟩
theorem impl_patched.meets : Meets Try.prog 190 impl_patched.S := meets_tab (S := impl_patched.U) tabOk_all AllMeets.nil AllStill.nil follows (by kernel_rfl : Try.prog.funcs[190]? = some Try.f190) (by kernel_rfl) (by kernel_rfl) (by kernel_rfl)
noncomputable def impl_Patch.C : Code := Try.f136.body.getD .skip
def impl_Patch.P : Par := (.cons (.val (.list .str)) (.cons (.val (.list (.pair (.int .i64) (.pair (.int .i64) (.one (.list .str)))))) .nil))
noncomputable def impl_Patch.U : SumTab := [(127, [], impl_goodLines.S), (167, [], impl_goodHunks.S), (190, [], impl_patched.S)]
noncomputable def impl_Patch.E : Env := mkEnv TY AR impl_Patch.U
def impl_Patch.D7 : CutD := ⟨[0, 1], (.cons (.val (.list .str)) (.cons (.val (.list (.pair (.int .i64) (.pair (.int .i64) (.one (.list .str)))))) .nil))⟩
noncomputable def impl_Patch.T : Tab := fun k => look k [(7, impl_Patch.D7)]
def impl_Patch.R : List (Nat × Ty) := [(9, .list .str), (0, .bool)]
def impl_Patch.X : List ResultVar := [.tmp 4, .tmp 5]
noncomputable def impl_Patch.K := fin impl_Patch.E ⟨impl_Patch.P, impl_Patch.R, fun _ _ => none⟩ impl_Patch.X impl_Patch.P.len 0
noncomputable def impl_Patch.l7 (l : List ByteArray) (h : List (Int × Int × List ByteArray)) : Option ((List ByteArray) × Bool) := fixP impl_Patch.E impl_Patch.T impl_Patch.C impl_Patch.K 7 impl_Patch.D7 (l, h)
noncomputable def impl_Patch.f (l : List ByteArray) (h : List (Int × Int × List ByteArray)) : Option ((List ByteArray) × Bool) := Fn impl_Patch.E impl_Patch.T impl_Patch.C impl_Patch.P impl_Patch.R impl_Patch.X (l, h)
theorem impl_Patch.l7_eq (l : List ByteArray) (h : List (Int × Int × List ByteArray)) : impl_Patch.l7 l h =
  ((impl_patched.f l h).bind fun y1 =>
  (impl_goodLines.f y1).bind fun y2 =>
  bif (!y2) then (some (([] : List ByteArray), false)) else (some (y1, true))) :=
  (fixP_eq impl_Patch.E impl_Patch.T impl_Patch.C impl_Patch.K 7 impl_Patch.D7 (l, h)).trans (by kernel_rfl)
theorem impl_Patch.f_eq (l : List ByteArray) (h : List (Int × Int × List ByteArray)) : impl_Patch.f l h =
  ((impl_goodLines.f l).bind fun y1 =>
  bif (!y1) then (some (([] : List ByteArray), false)) else
  ((impl_goodHunks.f (l.length : Int) h).bind fun y2 =>
   bif (!y2) then (some (([] : List ByteArray), false)) else
   (impl_Patch.l7 l h))) := by kernel_rfl
noncomputable def impl_Patch.S : Abs.Sum := ⟨impl_Patch.P, impl_Patch.R, fun _ => Fn impl_Patch.E impl_Patch.T impl_Patch.C impl_Patch.P impl_Patch.R impl_Patch.X⟩
theorem impl_Patch.meets : Meets Try.prog 136 impl_Patch.S := meets_tab (S := impl_Patch.U) tabOk_all (AllMeets.cons impl_goodLines.meets (AllMeets.cons impl_goodHunks.meets (AllMeets.cons impl_patched.meets AllMeets.nil))) (AllStill.cons (fun _ _ _ => rfl) (AllStill.cons (fun _ _ _ => rfl) (AllStill.cons (fun _ _ _ => rfl) AllStill.nil))) follows (by kernel_rfl : Try.prog.funcs[136]? = some Try.f136) (by kernel_rfl) (by kernel_rfl) (by kernel_rfl)
noncomputable def laws_big.C : Code := Try.f21.body.getD .skip
def laws_big.P : Par := (.cons (.val (.list (.int .u8))) (.cons (.val (.list (.int .u8))) .nil))
noncomputable def laws_big.U : SumTab := []
noncomputable def laws_big.E : Env := mkEnv TY AR laws_big.U
noncomputable def laws_big.T : Tab := fun k => look k []
def laws_big.R : List (Nat × Ty) := [(0, .bool)]
def laws_big.X : List ResultVar := [.tmp 4]
noncomputable def laws_big.f (code : List Int) (more : List Int) : Option (Bool) := Fn laws_big.E laws_big.T laws_big.C laws_big.P laws_big.R laws_big.X (code, more)
theorem laws_big.f_eq (code : List Int) (more : List Int) : laws_big.f code more =
  (bif (decide ((code.length : Int) > 1048576)) then (some true) else (some (decide ((more.length : Int) > (w64 (1048576 - (code.length : Int))))))) := by kernel_rfl
noncomputable def laws_big.S : Abs.Sum := ⟨laws_big.P, laws_big.R, fun _ => Fn laws_big.E laws_big.T laws_big.C laws_big.P laws_big.R laws_big.X⟩
theorem laws_big.meets : Meets Try.prog 21 laws_big.S := meets_tab (S := laws_big.U) tabOk_all AllMeets.nil AllStill.nil follows (by kernel_rfl : Try.prog.funcs[21]? = some Try.f21) (by kernel_rfl) (by kernel_rfl) (by kernel_rfl)
noncomputable def spec_l1Cur_next.C : Code := Try.f176.body.getD .skip
def spec_l1Cur_next.P : Par := (.cons (.box 0 (.pair (.list (.int .u8)) (.pair (.int .i64) (.one (.int .u64))))) .nil)
noncomputable def spec_l1Cur_next.U : SumTab := []
noncomputable def spec_l1Cur_next.E : Env := mkEnv TY AR spec_l1Cur_next.U
def spec_l1Cur_next.D9 : CutD := ⟨[0, 3], (.cons (.box 0 (.pair (.list (.int .u8)) (.pair (.int .i64) (.one (.int .u64))))) (.cons (.val (.int .i64)) .nil))⟩
noncomputable def spec_l1Cur_next.T : Tab := fun k => look k [(9, spec_l1Cur_next.D9)]
def spec_l1Cur_next.R : List (Nat × Ty) := [(0, .int .i64)]
def spec_l1Cur_next.X : List ResultVar := [.tmp 2]
noncomputable def spec_l1Cur_next.K := fin spec_l1Cur_next.E ⟨spec_l1Cur_next.P, spec_l1Cur_next.R, fun _ _ => none⟩ spec_l1Cur_next.X spec_l1Cur_next.P.len 0
noncomputable def spec_l1Cur_next.l9 (c : (List Int) × Int × Int) (b : Int) : Option (Int × ((List Int) × Int × Int)) := fixP spec_l1Cur_next.E spec_l1Cur_next.T spec_l1Cur_next.C spec_l1Cur_next.K 9 spec_l1Cur_next.D9 (c, b)
noncomputable def spec_l1Cur_next.f (c : (List Int) × Int × Int) : Option (Int × ((List Int) × Int × Int)) := Fn spec_l1Cur_next.E spec_l1Cur_next.T spec_l1Cur_next.C spec_l1Cur_next.P spec_l1Cur_next.R spec_l1Cur_next.X c
theorem spec_l1Cur_next.l9_eq (c : (List Int) × Int × Int) (b : Int) : spec_l1Cur_next.l9 c b =
  (bif (decide ((w64 (c.2.1 + 1)) ≤ (c.1.length : Int))) then (some (b, c.1, (w64 (c.2.1 + 1)), (IntKind.wrap .u64 ((IntKind.wrap .u64 ((IntKind.wrap .u64 (c.2.2 * 6364136223846793005)) + (IntKind.wrap .u64 b))) + 1442695040888963407)))) else (some ((w64 (andI .u64 (shrI .u64 (IntKind.wrap .u64 ((IntKind.wrap .u64 ((IntKind.wrap .u64 (c.2.2 * 6364136223846793005)) + (IntKind.wrap .u64 b))) + 1442695040888963407)) 40) 255)), c.1, (w64 (c.2.1 + 1)), (IntKind.wrap .u64 ((IntKind.wrap .u64 ((IntKind.wrap .u64 (c.2.2 * 6364136223846793005)) + (IntKind.wrap .u64 b))) + 1442695040888963407))))) :=
  (fixP_eq spec_l1Cur_next.E spec_l1Cur_next.T spec_l1Cur_next.C spec_l1Cur_next.K 9 spec_l1Cur_next.D9 (c, b)).trans (by kernel_rfl)
theorem spec_l1Cur_next.f_eq (c : (List Int) × Int × Int) : spec_l1Cur_next.f c =
  (bif (decide (c.2.1 < (c.1.length : Int))) then (bif ((decide (0 ≤ c.2.1)) && (decide (c.2.1 < (c.1.length : Int)))) then (spec_l1Cur_next.l9 c (w64 (c.1.getD (c.2.1).toNat 0))) else none) else
  (spec_l1Cur_next.l9 c 0)) := by kernel_rfl
noncomputable def spec_l1Cur_next.S : Abs.Sum := ⟨spec_l1Cur_next.P, spec_l1Cur_next.R, fun _ => Fn spec_l1Cur_next.E spec_l1Cur_next.T spec_l1Cur_next.C spec_l1Cur_next.P spec_l1Cur_next.R spec_l1Cur_next.X⟩
theorem spec_l1Cur_next.meets : Meets Try.prog 176 spec_l1Cur_next.S := meets_tab (S := spec_l1Cur_next.U) tabOk_all AllMeets.nil AllStill.nil follows (by kernel_rfl : Try.prog.funcs[176]? = some Try.f176) (by kernel_rfl) (by kernel_rfl) (by kernel_rfl)
noncomputable def spec_l1Cur_pick.C : Code := Try.f116.body.getD .skip
def spec_l1Cur_pick.P : Par := (.cons (.box 0 (.pair (.list (.int .u8)) (.pair (.int .i64) (.one (.int .u64))))) (.cons (.val (.int .i64)) .nil))
noncomputable def spec_l1Cur_pick.U : SumTab := [(176, [], spec_l1Cur_next.S)]
noncomputable def spec_l1Cur_pick.E : Env := mkEnv TY AR spec_l1Cur_pick.U
noncomputable def spec_l1Cur_pick.T : Tab := fun k => look k []
def spec_l1Cur_pick.R : List (Nat × Ty) := [(0, .int .i64)]
def spec_l1Cur_pick.X : List ResultVar := [.tmp 4]
noncomputable def spec_l1Cur_pick.f (c : (List Int) × Int × Int) (n : Int) : Option (Int × ((List Int) × Int × Int)) := Fn spec_l1Cur_pick.E spec_l1Cur_pick.T spec_l1Cur_pick.C spec_l1Cur_pick.P spec_l1Cur_pick.R spec_l1Cur_pick.X (c, n)
theorem spec_l1Cur_pick.f_eq (c : (List Int) × Int × Int) (n : Int) : spec_l1Cur_pick.f c n =
  (bif (decide (n ≤ 1)) then (some (0, c)) else
  ((spec_l1Cur_next.f c).bind fun y5 =>
   bif (decide (n > 200)) then ((spec_l1Cur_next.f y5.2).bind fun y6 =>
    bif (!(decide (n = 0))) then (some (((w64 ((w64 (y5.1 * 256)) + y6.1)).tmod n), y6.2)) else none) else
   (bif (!(decide (n = 0))) then (some ((y5.1.tmod n), y5.2)) else none))) := by kernel_rfl
noncomputable def spec_l1Cur_pick.S : Abs.Sum := ⟨spec_l1Cur_pick.P, spec_l1Cur_pick.R, fun _ => Fn spec_l1Cur_pick.E spec_l1Cur_pick.T spec_l1Cur_pick.C spec_l1Cur_pick.P spec_l1Cur_pick.R spec_l1Cur_pick.X⟩
theorem spec_l1Cur_pick.meets : Meets Try.prog 116 spec_l1Cur_pick.S := meets_tab (S := spec_l1Cur_pick.U) tabOk_all (AllMeets.cons spec_l1Cur_next.meets AllMeets.nil) (AllStill.cons (fun _ _ _ => rfl) AllStill.nil) follows (by kernel_rfl : Try.prog.funcs[116]? = some Try.f116) (by kernel_rfl) (by kernel_rfl) (by kernel_rfl)
noncomputable def spec_l1Cur_of.C : Code := Try.f195.body.getD .skip
def spec_l1Cur_of.P : Par := (.cons (.box 0 (.pair (.list (.int .u8)) (.pair (.int .i64) (.one (.int .u64))))) (.cons (.own 5 .str) .nil))
noncomputable def spec_l1Cur_of.U : SumTab := [(116, [], spec_l1Cur_pick.S)]
noncomputable def spec_l1Cur_of.E : Env := mkEnv TY AR spec_l1Cur_of.U
noncomputable def spec_l1Cur_of.T : Tab := fun k => look k []
def spec_l1Cur_of.R : List (Nat × Ty) := [(0, .str)]
def spec_l1Cur_of.X : List ResultVar := [.tmp 4]
noncomputable def spec_l1Cur_of.f (c : (List Int) × Int × Int) (list : List ByteArray) : Option (ByteArray × ((List Int) × Int × Int)) := Fn spec_l1Cur_of.E spec_l1Cur_of.T spec_l1Cur_of.C spec_l1Cur_of.P spec_l1Cur_of.R spec_l1Cur_of.X (c, list)
theorem spec_l1Cur_of.f_eq (c : (List Int) × Int × Int) (list : List ByteArray) : spec_l1Cur_of.f c list =
  ((spec_l1Cur_pick.f c (list.length : Int)).bind fun y5 =>
  bif ((decide (0 ≤ y5.1)) && (decide (y5.1 < (list.length : Int)))) then (some ((list.getD (y5.1).toNat em), y5.2)) else none) := by kernel_rfl
noncomputable def spec_l1Cur_of.S : Abs.Sum := ⟨spec_l1Cur_of.P, spec_l1Cur_of.R, fun _ => Fn spec_l1Cur_of.E spec_l1Cur_of.T spec_l1Cur_of.C spec_l1Cur_of.P spec_l1Cur_of.R spec_l1Cur_of.X⟩
theorem spec_l1Cur_of.meets : Meets Try.prog 195 spec_l1Cur_of.S := meets_tab (S := spec_l1Cur_of.U) tabOk_all (AllMeets.cons spec_l1Cur_pick.meets AllMeets.nil) (AllStill.cons (fun _ _ _ => rfl) AllStill.nil) follows (by kernel_rfl : Try.prog.funcs[195]? = some Try.f195) (by kernel_rfl) (by kernel_rfl) (by kernel_rfl)
noncomputable def spec_l1Cur_line.C : Code := Try.f210.body.getD .skip
def spec_l1Cur_line.P : Par := (.cons (.box 0 (.pair (.list (.int .u8)) (.pair (.int .i64) (.one (.int .u64))))) .nil)
noncomputable def spec_l1Cur_line.U : SumTab := [(195, [], spec_l1Cur_of.S)]
noncomputable def spec_l1Cur_line.E : Env := mkEnv TY AR spec_l1Cur_line.U
noncomputable def spec_l1Cur_line.T : Tab := fun k => look k []
def spec_l1Cur_line.R : List (Nat × Ty) := [(0, .str)]
def spec_l1Cur_line.X : List ResultVar := [.tmp 2]
noncomputable def spec_l1Cur_line.f (c : (List Int) × Int × Int) : Option (ByteArray × ((List Int) × Int × Int)) := Fn spec_l1Cur_line.E spec_l1Cur_line.T spec_l1Cur_line.C spec_l1Cur_line.P spec_l1Cur_line.R spec_l1Cur_line.X c
theorem spec_l1Cur_line.f_eq (c : (List Int) × Int × Int) : spec_l1Cur_line.f c =
  ((spec_l1Cur_of.f c [(⟨#[97]⟩ : ByteArray), (⟨#[98]⟩ : ByteArray), (⟨#[99]⟩ : ByteArray), (⟨#[100]⟩ : ByteArray), em, (⟨#[46]⟩ : ByteArray), (⟨#[46, 46]⟩ : ByteArray), (⟨#[111, 110, 101, 32, 116, 119, 111]⟩ : ByteArray), (⟨#[43, 120]⟩ : ByteArray), (⟨#[45, 121]⟩ : ByteArray), (⟨#[92, 32, 122]⟩ : ByteArray), (⟨#[64, 64]⟩ : ByteArray)]).bind fun y5 =>
  some (y5.1, y5.2)) := by kernel_rfl
noncomputable def spec_l1Cur_line.S : Abs.Sum := ⟨spec_l1Cur_line.P, spec_l1Cur_line.R, fun _ => Fn spec_l1Cur_line.E spec_l1Cur_line.T spec_l1Cur_line.C spec_l1Cur_line.P spec_l1Cur_line.R spec_l1Cur_line.X⟩
theorem spec_l1Cur_line.meets : Meets Try.prog 210 spec_l1Cur_line.S := meets_tab (S := spec_l1Cur_line.U) tabOk_all (AllMeets.cons spec_l1Cur_of.meets AllMeets.nil) (AllStill.cons (fun _ _ _ => rfl) AllStill.nil) follows (by kernel_rfl : Try.prog.funcs[210]? = some Try.f210) (by kernel_rfl) (by kernel_rfl) (by kernel_rfl)
noncomputable def spec_l1Cur_one.C : Code := Try.f196.body.getD .skip
def spec_l1Cur_one.P : Par := (.cons (.box 0 (.pair (.list (.int .u8)) (.pair (.int .i64) (.one (.int .u64))))) (.cons (.val (.int .i64)) .nil))
noncomputable def spec_l1Cur_one.U : SumTab := [(116, [], spec_l1Cur_pick.S)]
noncomputable def spec_l1Cur_one.E : Env := mkEnv TY AR spec_l1Cur_one.U
noncomputable def spec_l1Cur_one.T : Tab := fun k => look k []
def spec_l1Cur_one.R : List (Nat × Ty) := [(0, .bool)]
def spec_l1Cur_one.X : List ResultVar := [.tmp 4]
noncomputable def spec_l1Cur_one.f (c : (List Int) × Int × Int) (n : Int) : Option (Bool × ((List Int) × Int × Int)) := Fn spec_l1Cur_one.E spec_l1Cur_one.T spec_l1Cur_one.C spec_l1Cur_one.P spec_l1Cur_one.R spec_l1Cur_one.X (c, n)
theorem spec_l1Cur_one.f_eq (c : (List Int) × Int × Int) (n : Int) : spec_l1Cur_one.f c n =
  ((spec_l1Cur_pick.f c n).bind fun y5 =>
  some ((decide (y5.1 = 0)), y5.2)) := by kernel_rfl
noncomputable def spec_l1Cur_one.S : Abs.Sum := ⟨spec_l1Cur_one.P, spec_l1Cur_one.R, fun _ => Fn spec_l1Cur_one.E spec_l1Cur_one.T spec_l1Cur_one.C spec_l1Cur_one.P spec_l1Cur_one.R spec_l1Cur_one.X⟩
theorem spec_l1Cur_one.meets : Meets Try.prog 196 spec_l1Cur_one.S := meets_tab (S := spec_l1Cur_one.U) tabOk_all (AllMeets.cons spec_l1Cur_pick.meets AllMeets.nil) (AllStill.cons (fun _ _ _ => rfl) AllStill.nil) follows (by kernel_rfl : Try.prog.funcs[196]? = some Try.f196) (by kernel_rfl) (by kernel_rfl) (by kernel_rfl)
noncomputable def spec_l1Cur_text.C : Code := Try.f170.body.getD .skip
def spec_l1Cur_text.P : Par := (.cons (.box 0 (.pair (.list (.int .u8)) (.pair (.int .i64) (.one (.int .u64))))) .nil)
noncomputable def spec_l1Cur_text.U : SumTab := [(116, [], spec_l1Cur_pick.S), (210, [], spec_l1Cur_line.S), (196, [], spec_l1Cur_one.S), (195, [], spec_l1Cur_of.S)]
noncomputable def spec_l1Cur_text.E : Env := mkEnv TY AR spec_l1Cur_text.U
def spec_l1Cur_text.D6 : CutD := ⟨[0, 3, 4], (.cons (.box 0 (.pair (.list (.int .u8)) (.pair (.int .i64) (.one (.int .u64))))) (.cons (.own 9 .str) (.cons (.val (.int .i64)) .nil)))⟩
noncomputable def spec_l1Cur_text.T : Tab := fun k => look k [(6, spec_l1Cur_text.D6)]
def spec_l1Cur_text.R : List (Nat × Ty) := [(9, .list .str)]
def spec_l1Cur_text.X : List ResultVar := [.tmp 2]
noncomputable def spec_l1Cur_text.K := fin spec_l1Cur_text.E ⟨spec_l1Cur_text.P, spec_l1Cur_text.R, fun _ _ => none⟩ spec_l1Cur_text.X spec_l1Cur_text.P.len 0
noncomputable def spec_l1Cur_text.l6 (c : (List Int) × Int × Int) (l : List ByteArray) (n : Int) : Option ((List ByteArray) × ((List Int) × Int × Int)) := fixP spec_l1Cur_text.E spec_l1Cur_text.T spec_l1Cur_text.C spec_l1Cur_text.K 6 spec_l1Cur_text.D6 (c, l, n)
noncomputable def spec_l1Cur_text.f (c : (List Int) × Int × Int) : Option ((List ByteArray) × ((List Int) × Int × Int)) := Fn spec_l1Cur_text.E spec_l1Cur_text.T spec_l1Cur_text.C spec_l1Cur_text.P spec_l1Cur_text.R spec_l1Cur_text.X c
theorem spec_l1Cur_text.l6_eq (c : (List Int) × Int × Int) (l : List ByteArray) (n : Int) : spec_l1Cur_text.l6 c l n =
  (bif (decide (n > 0)) then ((spec_l1Cur_line.f c).bind fun y5 =>
   bif (decide ((y5.1.size + (⟨#[10]⟩ : ByteArray).size) ≤ 9223372036854775807)) then (bif (decide ((l.length + [(y5.1 ++ (⟨#[10]⟩ : ByteArray))].length) ≤ room 16)) then (spec_l1Cur_text.l6 y5.2 (l ++ [(y5.1 ++ (⟨#[10]⟩ : ByteArray))]) (w64 (n - 1))) else none) else none) else
  ((spec_l1Cur_one.f c 5).bind fun y5 =>
   bif y5.1 then ((spec_l1Cur_of.f y5.2 [(⟨#[97]⟩ : ByteArray), (⟨#[101, 110, 100]⟩ : ByteArray), (⟨#[46]⟩ : ByteArray)]).bind fun y6 =>
    bif (decide ((l.length + [y6.1].length) ≤ room 16)) then (some ((l ++ [y6.1]), y6.2)) else none) else (some (l, y5.2)))) :=
  (fixP_eq spec_l1Cur_text.E spec_l1Cur_text.T spec_l1Cur_text.C spec_l1Cur_text.K 6 spec_l1Cur_text.D6 (c, l, n)).trans (by kernel_rfl)
theorem spec_l1Cur_text.f_eq (c : (List Int) × Int × Int) : spec_l1Cur_text.f c =
  ((spec_l1Cur_pick.f c 9).bind fun y5 =>
  spec_l1Cur_text.l6 y5.2 ([] : List ByteArray) y5.1) := by kernel_rfl
noncomputable def spec_l1Cur_text.S : Abs.Sum := ⟨spec_l1Cur_text.P, spec_l1Cur_text.R, fun _ => Fn spec_l1Cur_text.E spec_l1Cur_text.T spec_l1Cur_text.C spec_l1Cur_text.P spec_l1Cur_text.R spec_l1Cur_text.X⟩
theorem spec_l1Cur_text.meets : Meets Try.prog 170 spec_l1Cur_text.S := meets_tab (S := spec_l1Cur_text.U) tabOk_all (AllMeets.cons spec_l1Cur_pick.meets (AllMeets.cons spec_l1Cur_line.meets (AllMeets.cons spec_l1Cur_one.meets (AllMeets.cons spec_l1Cur_of.meets AllMeets.nil)))) (AllStill.cons (fun _ _ _ => rfl) (AllStill.cons (fun _ _ _ => rfl) (AllStill.cons (fun _ _ _ => rfl) (AllStill.cons (fun _ _ _ => rfl) AllStill.nil)))) follows (by kernel_rfl : Try.prog.funcs[170]? = some Try.f170) (by kernel_rfl) (by kernel_rfl) (by kernel_rfl)
noncomputable def spec_l1Whole.C : Code := Try.f150.body.getD .skip
def spec_l1Whole.P : Par := (.cons (.val (.list .str)) .nil)
noncomputable def spec_l1Whole.U : SumTab := [(160, [], spec_l1Ends.S)]
noncomputable def spec_l1Whole.E : Env := mkEnv TY AR spec_l1Whole.U
noncomputable def spec_l1Whole.T : Tab := fun k => look k []
def spec_l1Whole.R : List (Nat × Ty) := [(0, .bool)]
def spec_l1Whole.X : List ResultVar := [.tmp 2]
noncomputable def spec_l1Whole.f (l : List ByteArray) : Option (Bool) := Fn spec_l1Whole.E spec_l1Whole.T spec_l1Whole.C spec_l1Whole.P spec_l1Whole.R spec_l1Whole.X l
theorem spec_l1Whole.f_eq (l : List ByteArray) : spec_l1Whole.f l =
  (bif (decide ((l.length : Int) = 0)) then (some true) else
  (bif ((decide (0 ≤ (w64 ((l.length : Int) - 1)))) && (decide ((w64 ((l.length : Int) - 1)) < (l.length : Int)))) then ((spec_l1Ends.f (l.getD ((w64 ((l.length : Int) - 1))).toNat em)).bind fun y5 =>
    some y5) else none)) := by kernel_rfl
noncomputable def spec_l1Whole.S : Abs.Sum := ⟨spec_l1Whole.P, spec_l1Whole.R, fun _ => Fn spec_l1Whole.E spec_l1Whole.T spec_l1Whole.C spec_l1Whole.P spec_l1Whole.R spec_l1Whole.X⟩
theorem spec_l1Whole.meets : Meets Try.prog 150 spec_l1Whole.S := meets_tab (S := spec_l1Whole.U) tabOk_all (AllMeets.cons spec_l1Ends.meets AllMeets.nil) (AllStill.cons (fun _ _ _ => rfl) AllStill.nil) follows (by kernel_rfl : Try.prog.funcs[150]? = some Try.f150) (by kernel_rfl) (by kernel_rfl) (by kernel_rfl)
noncomputable def spec_l1Plain.C : Code := Try.f222.body.getD .skip
def spec_l1Plain.P : Par := (.cons (.val .str) .nil)
noncomputable def spec_l1Plain.U : SumTab := [(160, [], spec_l1Ends.S)]
noncomputable def spec_l1Plain.E : Env := mkEnv TY AR spec_l1Plain.U
noncomputable def spec_l1Plain.T : Tab := fun k => look k []
def spec_l1Plain.R : List (Nat × Ty) := [(0, .str)]
def spec_l1Plain.X : List ResultVar := [.tmp 2]
noncomputable def spec_l1Plain.f (s : ByteArray) : Option (ByteArray) := Fn spec_l1Plain.E spec_l1Plain.T spec_l1Plain.C spec_l1Plain.P spec_l1Plain.R spec_l1Plain.X s
theorem spec_l1Plain.f_eq (s : ByteArray) : spec_l1Plain.f s =
  ((spec_l1Ends.f s).bind fun y5 =>
  bif y5 then (bif ((decide (0 ≤ (w64 ((s.size : Int) - 1)))) && (decide ((w64 ((s.size : Int) - 1)) ≤ (s.size : Int)))) then (some (s.extract 0 ((w64 ((s.size : Int) - 1))).toNat)) else none) else (some s)) := by kernel_rfl
noncomputable def spec_l1Plain.S : Abs.Sum := ⟨spec_l1Plain.P, spec_l1Plain.R, fun _ => Fn spec_l1Plain.E spec_l1Plain.T spec_l1Plain.C spec_l1Plain.P spec_l1Plain.R spec_l1Plain.X⟩
theorem spec_l1Plain.meets : Meets Try.prog 222 spec_l1Plain.S := meets_tab (S := spec_l1Plain.U) tabOk_all (AllMeets.cons spec_l1Ends.meets AllMeets.nil) (AllStill.cons (fun _ _ _ => rfl) AllStill.nil) follows (by kernel_rfl : Try.prog.funcs[222]? = some Try.f222) (by kernel_rfl) (by kernel_rfl) (by kernel_rfl)
noncomputable def spec_l1Cur_other.C : Code := Try.f197.body.getD .skip
def spec_l1Cur_other.P : Par := (.cons (.box 0 (.pair (.list (.int .u8)) (.pair (.int .i64) (.one (.int .u64))))) (.cons (.val (.list .str)) .nil))
noncomputable def spec_l1Cur_other.U : SumTab := [(122, [], spec_l1OwnT.S), (116, [], spec_l1Cur_pick.S), (160, [], spec_l1Ends.S), (210, [], spec_l1Cur_line.S), (150, [], spec_l1Whole.S), (196, [], spec_l1Cur_one.S), (222, [], spec_l1Plain.S)]
def spec_l1Cur_other.Z : List (Nat × List Nat) := [(8, [5]), (11, [5])]
noncomputable def spec_l1Cur_other.E : Env := mkEnvZ TY AR spec_l1Cur_other.U spec_l1Cur_other.Z
def spec_l1Cur_other.D6 : CutD := ⟨[0, 1, 5, 6], (.cons (.box 0 (.pair (.list (.int .u8)) (.pair (.int .i64) (.one (.int .u64))))) (.cons (.val (.list .str)) (.cons (.own 8 .str) (.cons (.val (.int .i64)) .nil))))⟩
def spec_l1Cur_other.D9 : CutD := ⟨[0, 1, 5, 6], (.cons (.box 0 (.pair (.list (.int .u8)) (.pair (.int .i64) (.one (.int .u64))))) (.cons (.val (.list .str)) (.cons (.own 8 .str) (.cons (.val (.int .i64)) .nil))))⟩
def spec_l1Cur_other.D43 : CutD := ⟨[0, 1, 5], (.cons (.box 0 (.pair (.list (.int .u8)) (.pair (.int .i64) (.one (.int .u64))))) (.cons (.val (.list .str)) (.cons (.own 8 .str) .nil)))⟩
noncomputable def spec_l1Cur_other.T : Tab := fun k => look k [(6, spec_l1Cur_other.D6), (9, spec_l1Cur_other.D9), (43, spec_l1Cur_other.D43)]
def spec_l1Cur_other.R : List (Nat × Ty) := [(9, .list .str)]
def spec_l1Cur_other.X : List ResultVar := [.tmp 4]
noncomputable def spec_l1Cur_other.K := fin spec_l1Cur_other.E ⟨spec_l1Cur_other.P, spec_l1Cur_other.R, fun _ _ => none⟩ spec_l1Cur_other.X spec_l1Cur_other.P.len 0
noncomputable def spec_l1Cur_other.l6 (c : (List Int) × Int × Int) (a : List ByteArray) (b : List ByteArray) (n : Int) : Option ((List ByteArray) × ((List Int) × Int × Int)) := fixP spec_l1Cur_other.E spec_l1Cur_other.T spec_l1Cur_other.C spec_l1Cur_other.K 6 spec_l1Cur_other.D6 (c, a, b, n)
noncomputable def spec_l1Cur_other.l9 (c : (List Int) × Int × Int) (a : List ByteArray) (b : List ByteArray) (n : Int) : Option ((List ByteArray) × ((List Int) × Int × Int)) := fixP spec_l1Cur_other.E spec_l1Cur_other.T spec_l1Cur_other.C spec_l1Cur_other.K 9 spec_l1Cur_other.D9 (c, a, b, n)
noncomputable def spec_l1Cur_other.l43 (c : (List Int) × Int × Int) (a : List ByteArray) (b : List ByteArray) : Option ((List ByteArray) × ((List Int) × Int × Int)) := fixP spec_l1Cur_other.E spec_l1Cur_other.T spec_l1Cur_other.C spec_l1Cur_other.K 43 spec_l1Cur_other.D43 (c, a, b)
noncomputable def spec_l1Cur_other.f (c : (List Int) × Int × Int) (a : List ByteArray) : Option ((List ByteArray) × ((List Int) × Int × Int)) := Fn spec_l1Cur_other.E spec_l1Cur_other.T spec_l1Cur_other.C spec_l1Cur_other.P spec_l1Cur_other.R spec_l1Cur_other.X (c, a)
theorem spec_l1Cur_other.l6_eq (c : (List Int) × Int × Int) (a : List ByteArray) (b : List ByteArray) (n : Int) : spec_l1Cur_other.l6 c a b n =
  (bif (decide (n > 0)) then ((spec_l1Cur_pick.f c (w64 ((b.length : Int) + 1))).bind fun y5 =>
   (spec_l1Cur_pick.f y5.2 3).bind fun y6 =>
   bif (decide (y6.1 = 0)) then (bif (decide (y5.1 < (b.length : Int))) then (bif ((decide (0 ≤ y5.1)) && (decide (y5.1 ≤ (b.length : Int)))) then ((spec_l1OwnT.f (b.take (y5.1).toNat)).bind fun y7 =>
      bif ((decide (0 ≤ (w64 (y5.1 + 1)))) && (decide ((w64 (y5.1 + 1)) ≤ (b.length : Int)))) then (bif (decide ((y7.length + (b.drop ((w64 (y5.1 + 1))).toNat).length) ≤ room 16)) then (spec_l1Cur_other.l9 y6.2 a (y7 ++ (b.drop ((w64 (y5.1 + 1))).toNat)) n) else none) else none) else none) else
    (spec_l1Cur_other.l9 y6.2 a b n)) else
   (bif (decide (y6.1 = 1)) then (bif (decide (y5.1 < (b.length : Int))) then (bif ((decide (0 ≤ y5.1)) && (decide (y5.1 < (b.length : Int)))) then ((spec_l1Ends.f (b.getD (y5.1).toNat em)).bind fun y7 =>
       bif y7 then ((spec_l1Cur_line.f y6.2).bind fun y8 =>
        bif (decide ((y8.1.size + (⟨#[10]⟩ : ByteArray).size) ≤ 9223372036854775807)) then (bif ((decide (0 ≤ y5.1)) && (decide (y5.1 < (b.length : Int)))) then (spec_l1Cur_other.l9 y8.2 a (b.set (y5.1).toNat (y8.1 ++ (⟨#[10]⟩ : ByteArray))) n) else none) else none) else
       (spec_l1Cur_other.l9 y6.2 a b n)) else none) else
     (spec_l1Cur_other.l9 y6.2 a b n)) else
    (bif (decide (y5.1 < (b.length : Int))) then (bif ((decide (0 ≤ y5.1)) && (decide (y5.1 ≤ (b.length : Int)))) then ((spec_l1OwnT.f (b.take (y5.1).toNat)).bind fun y7 =>
       (spec_l1Cur_line.f y6.2).bind fun y8 =>
       bif (decide ((y8.1.size + (⟨#[10]⟩ : ByteArray).size) ≤ 9223372036854775807)) then (bif (decide ((y7.length + [(y8.1 ++ (⟨#[10]⟩ : ByteArray))].length) ≤ room 16)) then (bif ((decide (0 ≤ y5.1)) && (decide (y5.1 ≤ (b.length : Int)))) then (bif (decide (((y7 ++ [(y8.1 ++ (⟨#[10]⟩ : ByteArray))]).length + (b.drop (y5.1).toNat).length) ≤ room 16)) then (spec_l1Cur_other.l9 y8.2 a ((y7 ++ [(y8.1 ++ (⟨#[10]⟩ : ByteArray))]) ++ (b.drop (y5.1).toNat)) n) else none) else none) else none) else none) else none) else
     ((spec_l1Whole.f b).bind fun y7 =>
      bif y7 then (bif ((decide (0 ≤ y5.1)) && (decide (y5.1 ≤ (b.length : Int)))) then ((spec_l1OwnT.f (b.take (y5.1).toNat)).bind fun y8 =>
        (spec_l1Cur_line.f y6.2).bind fun y9 =>
        bif (decide ((y9.1.size + (⟨#[10]⟩ : ByteArray).size) ≤ 9223372036854775807)) then (bif (decide ((y8.length + [(y9.1 ++ (⟨#[10]⟩ : ByteArray))].length) ≤ room 16)) then (bif ((decide (0 ≤ y5.1)) && (decide (y5.1 ≤ (b.length : Int)))) then (bif (decide (((y8 ++ [(y9.1 ++ (⟨#[10]⟩ : ByteArray))]).length + (b.drop (y5.1).toNat).length) ≤ room 16)) then (spec_l1Cur_other.l9 y9.2 a ((y8 ++ [(y9.1 ++ (⟨#[10]⟩ : ByteArray))]) ++ (b.drop (y5.1).toNat)) n) else none) else none) else none) else none) else none) else
      (spec_l1Cur_other.l9 y6.2 a b n))))) else
  (bif (decide ((b.length : Int) > 0)) then ((spec_l1Cur_one.f c 6).bind fun y5 =>
    bif y5.1 then (bif ((decide (0 ≤ (w64 ((b.length : Int) - 1)))) && (decide ((w64 ((b.length : Int) - 1)) < (b.length : Int)))) then ((spec_l1Plain.f (b.getD ((w64 ((b.length : Int) - 1))).toNat em)).bind fun y6 =>
      bif ((decide (0 ≤ (w64 ((b.length : Int) - 1)))) && (decide ((w64 ((b.length : Int) - 1)) < (b.length : Int)))) then ((spec_l1Ends.f (b.getD ((w64 ((b.length : Int) - 1))).toNat em)).bind fun y7 =>
       bif (!y7) then (bif (decide ((y6.size + (⟨#[10]⟩ : ByteArray).size) ≤ 9223372036854775807)) then (bif ((decide (0 ≤ (w64 ((b.length : Int) - 1)))) && (decide ((w64 ((b.length : Int) - 1)) < (b.length : Int)))) then (spec_l1Cur_other.l43 y5.2 a (b.set ((w64 ((b.length : Int) - 1))).toNat (y6 ++ (⟨#[10]⟩ : ByteArray)))) else none) else none) else
       (bif (!(y6.toList == em.toList)) then (bif ((decide (0 ≤ (w64 ((b.length : Int) - 1)))) && (decide ((w64 ((b.length : Int) - 1)) < (b.length : Int)))) then (spec_l1Cur_other.l43 y5.2 a (b.set ((w64 ((b.length : Int) - 1))).toNat y6)) else none) else
        (spec_l1Cur_other.l43 y5.2 a b))) else none) else none) else
    (spec_l1Cur_other.l43 y5.2 a b)) else
   (spec_l1Cur_other.l43 c a b))) :=
  (fixP_eq spec_l1Cur_other.E spec_l1Cur_other.T spec_l1Cur_other.C spec_l1Cur_other.K 6 spec_l1Cur_other.D6 (c, a, b, n)).trans (by kernel_rfl)
theorem spec_l1Cur_other.l9_eq (c : (List Int) × Int × Int) (a : List ByteArray) (b : List ByteArray) (n : Int) : spec_l1Cur_other.l9 c a b n =
  (spec_l1Cur_other.l6 c a b (w64 (n - 1))) :=
  (fixP_eq spec_l1Cur_other.E spec_l1Cur_other.T spec_l1Cur_other.C spec_l1Cur_other.K 9 spec_l1Cur_other.D9 (c, a, b, n)).trans (by kernel_rfl)
theorem spec_l1Cur_other.l43_eq (c : (List Int) × Int × Int) (a : List ByteArray) (b : List ByteArray) : spec_l1Cur_other.l43 c a b =
  (some (b, c)) :=
  (fixP_eq spec_l1Cur_other.E spec_l1Cur_other.T spec_l1Cur_other.C spec_l1Cur_other.K 43 spec_l1Cur_other.D43 (c, a, b)).trans (by kernel_rfl)
theorem spec_l1Cur_other.f_eq (c : (List Int) × Int × Int) (a : List ByteArray) : spec_l1Cur_other.f c a =
  ((spec_l1OwnT.f a).bind fun y5 =>
  (spec_l1Cur_pick.f c 4).bind fun y6 =>
  spec_l1Cur_other.l6 y6.2 a y5 y6.1) := by kernel_rfl
noncomputable def spec_l1Cur_other.S : Abs.Sum := ⟨spec_l1Cur_other.P, spec_l1Cur_other.R, fun _ => Fn spec_l1Cur_other.E spec_l1Cur_other.T spec_l1Cur_other.C spec_l1Cur_other.P spec_l1Cur_other.R spec_l1Cur_other.X⟩
theorem spec_l1Cur_other.meets : Meets Try.prog 197 spec_l1Cur_other.S := meets_tabZ spec_l1Cur_other.Z (S := spec_l1Cur_other.U) tabOk_all (AllMeets.cons spec_l1OwnT.meets (AllMeets.cons spec_l1Cur_pick.meets (AllMeets.cons spec_l1Ends.meets (AllMeets.cons spec_l1Cur_line.meets (AllMeets.cons spec_l1Whole.meets (AllMeets.cons spec_l1Cur_one.meets (AllMeets.cons spec_l1Plain.meets AllMeets.nil))))))) (AllStill.cons (fun _ _ _ => rfl) (AllStill.cons (fun _ _ _ => rfl) (AllStill.cons (fun _ _ _ => rfl) (AllStill.cons (fun _ _ _ => rfl) (AllStill.cons (fun _ _ _ => rfl) (AllStill.cons (fun _ _ _ => rfl) (AllStill.cons (fun _ _ _ => rfl) AllStill.nil))))))) follows (by kernel_rfl : Try.prog.funcs[197]? = some Try.f197) (by kernel_rfl) (by kernel_rfl) (by kernel_rfl)
noncomputable def laws_sameTexts.C : Code := Try.f34.body.getD .skip
def laws_sameTexts.P : Par := (.cons (.val (.list .str)) (.cons (.val (.list .str)) .nil))
noncomputable def laws_sameTexts.U : SumTab := []
noncomputable def laws_sameTexts.E : Env := mkEnv TY AR laws_sameTexts.U
def laws_sameTexts.D8 : CutD := ⟨[0, 1, 12, 13], (.cons (.val (.list .str)) (.cons (.val (.list .str)) (.cons (.val (.int .i64)) (.cons (.val (.int .i64)) .nil))))⟩
noncomputable def laws_sameTexts.T : Tab := fun k => look k [(8, laws_sameTexts.D8)]
def laws_sameTexts.R : List (Nat × Ty) := [(0, .bool)]
def laws_sameTexts.X : List ResultVar := [.tmp 4]
noncomputable def laws_sameTexts.K := fin laws_sameTexts.E ⟨laws_sameTexts.P, laws_sameTexts.R, fun _ _ => none⟩ laws_sameTexts.X laws_sameTexts.P.len 0
noncomputable def laws_sameTexts.l8 (a : List ByteArray) (b : List ByteArray) (t12 : Int) (t13 : Int) : Option (Bool) := fixP laws_sameTexts.E laws_sameTexts.T laws_sameTexts.C laws_sameTexts.K 8 laws_sameTexts.D8 (a, b, t12, t13)
noncomputable def laws_sameTexts.f (a : List ByteArray) (b : List ByteArray) : Option (Bool) := Fn laws_sameTexts.E laws_sameTexts.T laws_sameTexts.C laws_sameTexts.P laws_sameTexts.R laws_sameTexts.X (a, b)
theorem laws_sameTexts.l8_eq (a : List ByteArray) (b : List ByteArray) (t12 : Int) (t13 : Int) : laws_sameTexts.l8 a b t12 t13 =
  (bif (decide (t13 < t12)) then (bif ((decide (0 ≤ t13)) && (decide (t13 < (a.length : Int)))) then (bif ((decide (0 ≤ t13)) && (decide (t13 < (b.length : Int)))) then (bif (!((a.getD (t13).toNat em).toList == (b.getD (t13).toNat em).toList)) then (some false) else
     (laws_sameTexts.l8 a b t12 (w64 (t13 + 1)))) else none) else none) else (some true)) :=
  (fixP_eq laws_sameTexts.E laws_sameTexts.T laws_sameTexts.C laws_sameTexts.K 8 laws_sameTexts.D8 (a, b, t12, t13)).trans (by kernel_rfl)
theorem laws_sameTexts.f_eq (a : List ByteArray) (b : List ByteArray) : laws_sameTexts.f a b =
  (bif (!(decide ((a.length : Int) = (b.length : Int)))) then (some false) else
  (laws_sameTexts.l8 a b (a.length : Int) 0)) := by kernel_rfl
noncomputable def laws_sameTexts.S : Abs.Sum := ⟨laws_sameTexts.P, laws_sameTexts.R, fun _ => Fn laws_sameTexts.E laws_sameTexts.T laws_sameTexts.C laws_sameTexts.P laws_sameTexts.R laws_sameTexts.X⟩
theorem laws_sameTexts.meets : Meets Try.prog 34 laws_sameTexts.S := meets_tab (S := laws_sameTexts.U) tabOk_all AllMeets.nil AllStill.nil follows (by kernel_rfl : Try.prog.funcs[34]? = some Try.f34) (by kernel_rfl) (by kernel_rfl) (by kernel_rfl)
noncomputable def spec_l1Least.C : Code := Try.f213.body.getD .skip
def spec_l1Least.P : Par := (.cons (.val (.int .i64)) (.cons (.val (.int .i64)) .nil))
noncomputable def spec_l1Least.U : SumTab := []
noncomputable def spec_l1Least.E : Env := mkEnv TY AR spec_l1Least.U
noncomputable def spec_l1Least.T : Tab := fun k => look k []
def spec_l1Least.R : List (Nat × Ty) := [(0, .int .i64)]
def spec_l1Least.X : List ResultVar := [.tmp 4]
noncomputable def spec_l1Least.f (a : Int) (b : Int) : Option (Int) := Fn spec_l1Least.E spec_l1Least.T spec_l1Least.C spec_l1Least.P spec_l1Least.R spec_l1Least.X (a, b)
theorem spec_l1Least.f_eq (a : Int) (b : Int) : spec_l1Least.f a b =
  (bif (decide (a < b)) then (some a) else (some b)) := by kernel_rfl
noncomputable def spec_l1Least.S : Abs.Sum := ⟨spec_l1Least.P, spec_l1Least.R, fun _ => Fn spec_l1Least.E spec_l1Least.T spec_l1Least.C spec_l1Least.P spec_l1Least.R spec_l1Least.X⟩
theorem spec_l1Least.meets : Meets Try.prog 213 spec_l1Least.S := meets_tab (S := spec_l1Least.U) tabOk_all AllMeets.nil AllStill.nil follows (by kernel_rfl : Try.prog.funcs[213]? = some Try.f213) (by kernel_rfl) (by kernel_rfl) (by kernel_rfl)
noncomputable def spec_l1Cur_hunks.C : Code := Try.f194.body.getD .skip
def spec_l1Cur_hunks.P : Par := (.cons (.box 0 (.pair (.list (.int .u8)) (.pair (.int .i64) (.one (.int .u64))))) (.cons (.val (.list .str)) .nil))
noncomputable def spec_l1Cur_hunks.U : SumTab := [(116, [], spec_l1Cur_pick.S), (213, [], spec_l1Least.S), (210, [], spec_l1Cur_line.S), (150, [], spec_l1Whole.S)]
noncomputable def spec_l1Cur_hunks.E : Env := mkEnv TY AR spec_l1Cur_hunks.U
def spec_l1Cur_hunks.D6 : CutD := ⟨[0, 1, 5, 6], (.cons (.box 0 (.pair (.list (.int .u8)) (.pair (.int .i64) (.one (.int .u64))))) (.cons (.val (.list .str)) (.cons (.own 9 (.pair (.int .i64) (.pair (.int .i64) (.one (.list .str))))) (.cons (.val (.int .i64)) .nil))))⟩
def spec_l1Cur_hunks.D9 : CutD := ⟨[0, 1, 5, 6], (.cons (.box 0 (.pair (.list (.int .u8)) (.pair (.int .i64) (.one (.int .u64))))) (.cons (.val (.list .str)) (.cons (.own 9 (.pair (.int .i64) (.pair (.int .i64) (.one (.list .str))))) (.cons (.val (.int .i64)) .nil))))⟩
def spec_l1Cur_hunks.D12 : CutD := ⟨[0, 1, 5, 6, 7, 8], (.cons (.box 0 (.pair (.list (.int .u8)) (.pair (.int .i64) (.one (.int .u64))))) (.cons (.val (.list .str)) (.cons (.own 9 (.pair (.int .i64) (.pair (.int .i64) (.one (.list .str))))) (.cons (.val (.int .i64)) (.cons (.box 9 (.pair (.int .i64) (.pair (.int .i64) (.one (.list .str))))) (.cons (.val (.int .i64)) .nil))))))⟩
noncomputable def spec_l1Cur_hunks.T : Tab := fun k => look k [(6, spec_l1Cur_hunks.D6), (9, spec_l1Cur_hunks.D9), (12, spec_l1Cur_hunks.D12)]
def spec_l1Cur_hunks.R : List (Nat × Ty) := [(9, .list (.pair (.int .i64) (.pair (.int .i64) (.one (.list .str)))))]
def spec_l1Cur_hunks.X : List ResultVar := [.tmp 4]
noncomputable def spec_l1Cur_hunks.K := fin spec_l1Cur_hunks.E ⟨spec_l1Cur_hunks.P, spec_l1Cur_hunks.R, fun _ _ => none⟩ spec_l1Cur_hunks.X spec_l1Cur_hunks.P.len 0
noncomputable def spec_l1Cur_hunks.l6 (c : (List Int) × Int × Int) (l : List ByteArray) (out : List (Int × Int × List ByteArray)) (t6 : Int) : Option ((List (Int × Int × List ByteArray)) × ((List Int) × Int × Int)) := fixP spec_l1Cur_hunks.E spec_l1Cur_hunks.T spec_l1Cur_hunks.C spec_l1Cur_hunks.K 6 spec_l1Cur_hunks.D6 (c, l, out, t6)
noncomputable def spec_l1Cur_hunks.l9 (c : (List Int) × Int × Int) (l : List ByteArray) (out : List (Int × Int × List ByteArray)) (t6 : Int) : Option ((List (Int × Int × List ByteArray)) × ((List Int) × Int × Int)) := fixP spec_l1Cur_hunks.E spec_l1Cur_hunks.T spec_l1Cur_hunks.C spec_l1Cur_hunks.K 9 spec_l1Cur_hunks.D9 (c, l, out, t6)
noncomputable def spec_l1Cur_hunks.l12 (c : (List Int) × Int × Int) (l : List ByteArray) (out : List (Int × Int × List ByteArray)) (t6 : Int) (x : Int × Int × List ByteArray) (n : Int) : Option ((List (Int × Int × List ByteArray)) × ((List Int) × Int × Int)) := fixP spec_l1Cur_hunks.E spec_l1Cur_hunks.T spec_l1Cur_hunks.C spec_l1Cur_hunks.K 12 spec_l1Cur_hunks.D12 (c, l, out, t6, x, n)
noncomputable def spec_l1Cur_hunks.f (c : (List Int) × Int × Int) (l : List ByteArray) : Option ((List (Int × Int × List ByteArray)) × ((List Int) × Int × Int)) := Fn spec_l1Cur_hunks.E spec_l1Cur_hunks.T spec_l1Cur_hunks.C spec_l1Cur_hunks.P spec_l1Cur_hunks.R spec_l1Cur_hunks.X (c, l)
theorem spec_l1Cur_hunks.l6_eq (c : (List Int) × Int × Int) (l : List ByteArray) (out : List (Int × Int × List ByteArray)) (t6 : Int) : spec_l1Cur_hunks.l6 c l out t6 =
  (bif (decide (t6 ≤ (l.length : Int))) then (bif (decide ((out.length : Int) < 6)) then (spec_l1Cur_hunks.l9 c l out t6) else (some (out, c))) else (some (out, c))) :=
  (fixP_eq spec_l1Cur_hunks.E spec_l1Cur_hunks.T spec_l1Cur_hunks.C spec_l1Cur_hunks.K 6 spec_l1Cur_hunks.D6 (c, l, out, t6)).trans (by kernel_rfl)
theorem spec_l1Cur_hunks.l9_eq (c : (List Int) × Int × Int) (l : List ByteArray) (out : List (Int × Int × List ByteArray)) (t6 : Int) : spec_l1Cur_hunks.l9 c l out t6 =
  ((spec_l1Least.f 3 (w64 ((l.length : Int) - t6))).bind fun y13 =>
  (spec_l1Cur_pick.f c (w64 (y13 + 1))).bind fun y14 =>
  (spec_l1Cur_pick.f y14.2 3).bind fun y15 =>
  spec_l1Cur_hunks.l12 y15.2 l out t6 (t6, y14.1, ([] : List ByteArray)) y15.1) :=
  (fixP_eq spec_l1Cur_hunks.E spec_l1Cur_hunks.T spec_l1Cur_hunks.C spec_l1Cur_hunks.K 9 spec_l1Cur_hunks.D9 (c, l, out, t6)).trans (by kernel_rfl)
theorem spec_l1Cur_hunks.l12_eq (c : (List Int) × Int × Int) (l : List ByteArray) (out : List (Int × Int × List ByteArray)) (t6 : Int) (x : Int × Int × List ByteArray) (n : Int) : spec_l1Cur_hunks.l12 c l out t6 x n =
  (bif (decide (n > 0)) then ((spec_l1Cur_line.f c).bind fun y13 =>
   bif (decide ((y13.1.size + (⟨#[10]⟩ : ByteArray).size) ≤ 9223372036854775807)) then (bif (decide ((x.2.2.length + [(y13.1 ++ (⟨#[10]⟩ : ByteArray))].length) ≤ room 16)) then (spec_l1Cur_hunks.l12 y13.2 l out t6 (x.1, x.2.1, (x.2.2 ++ [(y13.1 ++ (⟨#[10]⟩ : ByteArray))])) (w64 (n - 1))) else none) else none) else
  (bif (decide ((w64 (x.2.1 + (x.2.2.length : Int))) > 0)) then (bif (decide ((w64 (t6 + x.2.1)) < (l.length : Int))) then (bif (decide ((out.length + [(x.1, x.2.1, x.2.2)].length) ≤ room 40)) then ((spec_l1Cur_pick.f c 3).bind fun y13 =>
      spec_l1Cur_hunks.l6 y13.2 l (out ++ [(x.1, x.2.1, x.2.2)]) (w64 (t6 + (w64 ((w64 (x.2.1 + 1)) + y13.1))))) else none) else
    ((spec_l1Whole.f l).bind fun y13 =>
     bif y13 then (bif (decide ((out.length + [(x.1, x.2.1, x.2.2)].length) ≤ room 40)) then ((spec_l1Cur_pick.f c 3).bind fun y14 =>
       spec_l1Cur_hunks.l6 y14.2 l (out ++ [(x.1, x.2.1, x.2.2)]) (w64 (t6 + (w64 ((w64 (x.2.1 + 1)) + y14.1))))) else none) else
     (bif (decide (x.2.1 > 0)) then (bif (decide ((out.length + [(x.1, x.2.1, x.2.2)].length) ≤ room 40)) then ((spec_l1Cur_pick.f c 3).bind fun y14 =>
        spec_l1Cur_hunks.l6 y14.2 l (out ++ [(x.1, x.2.1, x.2.2)]) (w64 (t6 + (w64 ((w64 (x.2.1 + 1)) + y14.1))))) else none) else
      ((spec_l1Cur_pick.f c 3).bind fun y14 =>
       spec_l1Cur_hunks.l6 y14.2 l out (w64 (t6 + (w64 ((w64 (x.2.1 + 1)) + y14.1)))))))) else
   ((spec_l1Cur_pick.f c 3).bind fun y13 =>
    spec_l1Cur_hunks.l6 y13.2 l out (w64 (t6 + (w64 ((w64 (x.2.1 + 1)) + y13.1))))))) :=
  (fixP_eq spec_l1Cur_hunks.E spec_l1Cur_hunks.T spec_l1Cur_hunks.C spec_l1Cur_hunks.K 12 spec_l1Cur_hunks.D12 (c, l, out, t6, x, n)).trans (by kernel_rfl)
theorem spec_l1Cur_hunks.f_eq (c : (List Int) × Int × Int) (l : List ByteArray) : spec_l1Cur_hunks.f c l =
  ((spec_l1Cur_pick.f c 3).bind fun y13 =>
  spec_l1Cur_hunks.l6 y13.2 l ([] : List (Int × Int × List ByteArray)) y13.1) := by kernel_rfl
noncomputable def spec_l1Cur_hunks.S : Abs.Sum := ⟨spec_l1Cur_hunks.P, spec_l1Cur_hunks.R, fun _ => Fn spec_l1Cur_hunks.E spec_l1Cur_hunks.T spec_l1Cur_hunks.C spec_l1Cur_hunks.P spec_l1Cur_hunks.R spec_l1Cur_hunks.X⟩
theorem spec_l1Cur_hunks.meets : Meets Try.prog 194 spec_l1Cur_hunks.S := meets_tab (S := spec_l1Cur_hunks.U) tabOk_all (AllMeets.cons spec_l1Cur_pick.meets (AllMeets.cons spec_l1Least.meets (AllMeets.cons spec_l1Cur_line.meets (AllMeets.cons spec_l1Whole.meets AllMeets.nil)))) (AllStill.cons (fun _ _ _ => rfl) (AllStill.cons (fun _ _ _ => rfl) (AllStill.cons (fun _ _ _ => rfl) (AllStill.cons (fun _ _ _ => rfl) AllStill.nil)))) follows (by kernel_rfl : Try.prog.funcs[194]? = some Try.f194) (by kernel_rfl) (by kernel_rfl) (by kernel_rfl)
noncomputable def spec_l1Cur_among.C : Code := Try.f112.body.getD .skip
def spec_l1Cur_among.P : Par := (.cons (.box 0 (.pair (.list (.int .u8)) (.pair (.int .i64) (.one (.int .u64))))) (.cons (.own 5 (.int .i64)) .nil))
noncomputable def spec_l1Cur_among.U : SumTab := [(116, [], spec_l1Cur_pick.S)]
noncomputable def spec_l1Cur_among.E : Env := mkEnv TY AR spec_l1Cur_among.U
noncomputable def spec_l1Cur_among.T : Tab := fun k => look k []
def spec_l1Cur_among.R : List (Nat × Ty) := [(0, .int .i64)]
def spec_l1Cur_among.X : List ResultVar := [.tmp 4]
noncomputable def spec_l1Cur_among.f (c : (List Int) × Int × Int) (list : List Int) : Option (Int × ((List Int) × Int × Int)) := Fn spec_l1Cur_among.E spec_l1Cur_among.T spec_l1Cur_among.C spec_l1Cur_among.P spec_l1Cur_among.R spec_l1Cur_among.X (c, list)
theorem spec_l1Cur_among.f_eq (c : (List Int) × Int × Int) (list : List Int) : spec_l1Cur_among.f c list =
  ((spec_l1Cur_pick.f c (list.length : Int)).bind fun y13 =>
  bif ((decide (0 ≤ y13.1)) && (decide (y13.1 < (list.length : Int)))) then (some ((list.getD (y13.1).toNat 0), y13.2)) else none) := by kernel_rfl
noncomputable def spec_l1Cur_among.S : Abs.Sum := ⟨spec_l1Cur_among.P, spec_l1Cur_among.R, fun _ => Fn spec_l1Cur_among.E spec_l1Cur_among.T spec_l1Cur_among.C spec_l1Cur_among.P spec_l1Cur_among.R spec_l1Cur_among.X⟩
theorem spec_l1Cur_among.meets : Meets Try.prog 112 spec_l1Cur_among.S := meets_tab (S := spec_l1Cur_among.U) tabOk_all (AllMeets.cons spec_l1Cur_pick.meets AllMeets.nil) (AllStill.cons (fun _ _ _ => rfl) AllStill.nil) follows (by kernel_rfl : Try.prog.funcs[112]? = some Try.f112) (by kernel_rfl) (by kernel_rfl) (by kernel_rfl)
noncomputable def spec_l6Rows.C : Code := Try.f212.body.getD .skip
def spec_l6Rows.P : Par := (.cons (.val (.int .i64)) (.cons (.val (.list .str)) .nil))
noncomputable def spec_l6Rows.U : SumTab := []
noncomputable def spec_l6Rows.E : Env := mkEnv TY AR spec_l6Rows.U
def spec_l6Rows.D6 : CutD := ⟨[0, 5, 8, 9, 10], (.cons (.val (.int .i64)) (.cons (.own 9 (.pair (.int .i64) (.one .str))) (.cons (.val (.list .str)) (.cons (.val (.int .i64)) (.cons (.val (.int .i64)) .nil)))))⟩
noncomputable def spec_l6Rows.T : Tab := fun k => look k [(6, spec_l6Rows.D6)]
def spec_l6Rows.R : List (Nat × Ty) := [(9, .list (.pair (.int .i64) (.one .str)))]
def spec_l6Rows.X : List ResultVar := [.tmp 4]
noncomputable def spec_l6Rows.K := fin spec_l6Rows.E ⟨spec_l6Rows.P, spec_l6Rows.R, fun _ _ => none⟩ spec_l6Rows.X spec_l6Rows.P.len 0
noncomputable def spec_l6Rows.l6 (kind : Int) (out : List (Int × ByteArray)) (t8 : List ByteArray) (t9 : Int) (t10 : Int) : Option ((List (Int × ByteArray))) := fixP spec_l6Rows.E spec_l6Rows.T spec_l6Rows.C spec_l6Rows.K 6 spec_l6Rows.D6 (kind, out, t8, t9, t10)
noncomputable def spec_l6Rows.f (kind : Int) (l : List ByteArray) : Option ((List (Int × ByteArray))) := Fn spec_l6Rows.E spec_l6Rows.T spec_l6Rows.C spec_l6Rows.P spec_l6Rows.R spec_l6Rows.X (kind, l)
theorem spec_l6Rows.l6_eq (kind : Int) (out : List (Int × ByteArray)) (t8 : List ByteArray) (t9 : Int) (t10 : Int) : spec_l6Rows.l6 kind out t8 t9 t10 =
  (bif (decide (t10 < t9)) then (bif ((decide (0 ≤ t10)) && (decide (t10 < (t8.length : Int)))) then (bif (decide ((out.length + [(kind, (t8.getD (t10).toNat em))].length) ≤ room 24)) then (spec_l6Rows.l6 kind (out ++ [(kind, (t8.getD (t10).toNat em))]) t8 t9 (w64 (t10 + 1))) else none) else none) else (some out)) :=
  (fixP_eq spec_l6Rows.E spec_l6Rows.T spec_l6Rows.C spec_l6Rows.K 6 spec_l6Rows.D6 (kind, out, t8, t9, t10)).trans (by kernel_rfl)
theorem spec_l6Rows.f_eq (kind : Int) (l : List ByteArray) : spec_l6Rows.f kind l =
  (spec_l6Rows.l6 kind ([] : List (Int × ByteArray)) l (l.length : Int) 0) := by kernel_rfl
noncomputable def spec_l6Rows.S : Abs.Sum := ⟨spec_l6Rows.P, spec_l6Rows.R, fun _ => Fn spec_l6Rows.E spec_l6Rows.T spec_l6Rows.C spec_l6Rows.P spec_l6Rows.R spec_l6Rows.X⟩
theorem spec_l6Rows.meets : Meets Try.prog 212 spec_l6Rows.S := meets_tab (S := spec_l6Rows.U) tabOk_all AllMeets.nil AllStill.nil follows (by kernel_rfl : Try.prog.funcs[212]? = some Try.f212) (by kernel_rfl) (by kernel_rfl) (by kernel_rfl)
noncomputable def spec_l6One.C : Code := Try.f175.body.getD .skip
def spec_l6One.P : Par := (.cons (.val (.list .str)) (.cons (.val (.list (.pair (.int .i64) (.pair (.int .i64) (.one (.list .str)))))) (.cons (.val (.int .i64)) (.cons (.val (.int .i64)) .nil))))
noncomputable def spec_l6One.U : SumTab := [(148, [], spec_l1Most.S), (212, [], spec_l6Rows.S), (213, [], spec_l1Least.S)]
noncomputable def spec_l6One.E : Env := mkEnv TY AR spec_l6One.U
def spec_l6One.D12 : CutD := ⟨[0, 2, 8, 10, 11, 12, 35, 36, 37], (.cons (.val (.list .str)) (.cons (.val (.int .i64)) (.cons (.box 9 (.pair (.int .i64) (.pair (.int .i64) (.one (.list (.pair (.int .i64) (.one .str))))))) (.cons (.box 0 (.pair (.int .i64) (.pair (.int .i64) (.one (.list .str))))) (.cons (.box 9 (.pair (.int .i64) (.pair (.int .i64) (.one (.list (.pair (.int .i64) (.one .str))))))) (.cons (.val (.int .i64)) (.cons (.val (.list (.pair (.int .i64) (.pair (.int .i64) (.one (.list .str)))))) (.cons (.val (.int .i64)) (.cons (.val (.int .i64)) .nil)))))))))⟩
noncomputable def spec_l6One.T : Tab := fun k => look k [(12, spec_l6One.D12)]
def spec_l6One.R : List (Nat × Ty) := [(9, .pair (.int .i64) (.pair (.int .i64) (.one (.list (.pair (.int .i64) (.one .str))))))]
def spec_l6One.X : List ResultVar := [.cell 8 53]
noncomputable def spec_l6One.K := fin spec_l6One.E ⟨spec_l6One.P, spec_l6One.R, fun _ _ => none⟩ spec_l6One.X spec_l6One.P.len 0
noncomputable def spec_l6One.l12 (l : List ByteArray) (width : Int) (t8 : Int × Int × List (Int × ByteArray)) (last : Int × Int × List ByteArray) (g : Int × Int × List (Int × ByteArray)) (t12 : Int) (t35 : List (Int × Int × List ByteArray)) (t36 : Int) (t37 : Int) : Option ((Int × Int × List (Int × ByteArray))) := fixP spec_l6One.E spec_l6One.T spec_l6One.C spec_l6One.K 12 spec_l6One.D12 (l, width, t8, last, g, t12, t35, t36, t37)
noncomputable def spec_l6One.f (l : List ByteArray) (h : List (Int × Int × List ByteArray)) (width : Int) (more : Int) : Option ((Int × Int × List (Int × ByteArray))) := Fn spec_l6One.E spec_l6One.T spec_l6One.C spec_l6One.P spec_l6One.R spec_l6One.X (l, h, width, more)
theorem spec_l6One.l12_eq (l : List ByteArray) (width : Int) (t8 : Int × Int × List (Int × ByteArray)) (last : Int × Int × List ByteArray) (g : Int × Int × List (Int × ByteArray)) (t12 : Int) (t35 : List (Int × Int × List ByteArray)) (t36 : Int) (t37 : Int) : spec_l6One.l12 l width t8 last g t12 t35 t36 t37 =
  (bif (decide (t37 < t36)) then (bif ((decide (0 ≤ t37)) && (decide (t37 < (t35.length : Int)))) then (bif ((decide (0 ≤ t12)) && ((decide (t12 ≤ (t35.getD (t37).toNat (0, 0, ([] : List ByteArray))).1)) && (decide ((t35.getD (t37).toNat (0, 0, ([] : List ByteArray))).1 ≤ (l.length : Int))))) then ((spec_l6Rows.f 1 ((l.take ((t35.getD (t37).toNat (0, 0, ([] : List ByteArray))).1).toNat).drop (t12).toNat)).bind fun y13 =>
     bif (decide ((g.2.2.length + y13.length) ≤ room 24)) then (bif ((decide (0 ≤ (t35.getD (t37).toNat (0, 0, ([] : List ByteArray))).1)) && ((decide ((t35.getD (t37).toNat (0, 0, ([] : List ByteArray))).1 ≤ (w64 ((t35.getD (t37).toNat (0, 0, ([] : List ByteArray))).1 + (t35.getD (t37).toNat (0, 0, ([] : List ByteArray))).2.1)))) && (decide ((w64 ((t35.getD (t37).toNat (0, 0, ([] : List ByteArray))).1 + (t35.getD (t37).toNat (0, 0, ([] : List ByteArray))).2.1)) ≤ (l.length : Int))))) then ((spec_l6Rows.f 2 ((l.take ((w64 ((t35.getD (t37).toNat (0, 0, ([] : List ByteArray))).1 + (t35.getD (t37).toNat (0, 0, ([] : List ByteArray))).2.1))).toNat).drop ((t35.getD (t37).toNat (0, 0, ([] : List ByteArray))).1).toNat)).bind fun y14 =>
       bif (decide (((g.2.2 ++ y13).length + y14.length) ≤ room 24)) then ((spec_l6Rows.f 3 (t35.getD (t37).toNat (0, 0, ([] : List ByteArray))).2.2).bind fun y15 =>
        bif (decide ((((g.2.2 ++ y13) ++ y14).length + y15.length) ≤ room 24)) then (spec_l6One.l12 l width (t8.1, t8.2.1, t8.2.2) last (g.1, g.2.1, (((g.2.2 ++ y13) ++ y14) ++ y15)) (w64 ((t35.getD (t37).toNat (0, 0, ([] : List ByteArray))).1 + (t35.getD (t37).toNat (0, 0, ([] : List ByteArray))).2.1)) t35 t36 (w64 (t37 + 1))) else none) else none) else none) else none) else none) else none) else
  ((spec_l1Least.f (l.length : Int) (w64 ((w64 (last.1 + last.2.1)) + width))).bind fun y13 =>
   bif ((decide (0 ≤ t12)) && ((decide (t12 ≤ y13)) && (decide (y13 ≤ (l.length : Int))))) then ((spec_l6Rows.f 1 ((l.take (y13).toNat).drop (t12).toNat)).bind fun y14 =>
    bif (decide ((g.2.2.length + y14.length) ≤ room 24)) then (some (g.1, g.2.1, (g.2.2 ++ y14))) else none) else none)) :=
  (fixP_eq spec_l6One.E spec_l6One.T spec_l6One.C spec_l6One.K 12 spec_l6One.D12 (l, width, t8, last, g, t12, t35, t36, t37)).trans (by kernel_rfl)
theorem spec_l6One.f_eq (l : List ByteArray) (h : List (Int × Int × List ByteArray)) (width : Int) (more : Int) : spec_l6One.f l h width more =
  (bif (decide (0 < (h.length : Int))) then ((spec_l1Most.f 0 (w64 ((h.getD 0 (0, 0, ([] : List ByteArray))).1 - width))).bind fun y13 =>
   bif ((decide (0 ≤ (w64 ((h.length : Int) - 1)))) && (decide ((w64 ((h.length : Int) - 1)) < (h.length : Int)))) then (spec_l6One.l12 l width (0, 0, ([] : List (Int × ByteArray))) (h.getD ((w64 ((h.length : Int) - 1))).toNat (0, 0, ([] : List ByteArray))) (y13, (w64 (y13 + more)), ([] : List (Int × ByteArray))) y13 h (h.length : Int) 0) else none) else none) := by kernel_rfl
noncomputable def spec_l6One.S : Abs.Sum := ⟨spec_l6One.P, spec_l6One.R, fun _ => Fn spec_l6One.E spec_l6One.T spec_l6One.C spec_l6One.P spec_l6One.R spec_l6One.X⟩
theorem spec_l6One.meets : Meets Try.prog 175 spec_l6One.S := meets_tab (S := spec_l6One.U) tabOk_all (AllMeets.cons spec_l1Most.meets (AllMeets.cons spec_l6Rows.meets (AllMeets.cons spec_l1Least.meets AllMeets.nil))) (AllStill.cons (fun _ _ _ => rfl) (AllStill.cons (fun _ _ _ => rfl) (AllStill.cons (fun _ _ _ => rfl) AllStill.nil))) follows (by kernel_rfl : Try.prog.funcs[175]? = some Try.f175) (by kernel_rfl) (by kernel_rfl) (by kernel_rfl)
noncomputable def spec_l6Groups.C : Code := Try.f114.body.getD .skip
def spec_l6Groups.P : Par := (.cons (.val (.list .str)) (.cons (.val (.list (.pair (.int .i64) (.pair (.int .i64) (.one (.list .str)))))) (.cons (.val (.int .i64)) .nil)))
noncomputable def spec_l6Groups.U : SumTab := [(175, [], spec_l6One.S)]
noncomputable def spec_l6Groups.E : Env := mkEnv TY AR spec_l6Groups.U
def spec_l6Groups.D8 : CutD := ⟨[0, 1, 2, 7, 8, 9], (.cons (.val (.list .str)) (.cons (.val (.list (.pair (.int .i64) (.pair (.int .i64) (.one (.list .str)))))) (.cons (.val (.int .i64)) (.cons (.own 9 (.pair (.int .i64) (.pair (.int .i64) (.one (.list (.pair (.int .i64) (.one .str))))))) (.cons (.val (.int .i64)) (.cons (.val (.int .i64)) .nil))))))⟩
def spec_l6Groups.D12 : CutD := ⟨[0, 1, 2, 7, 8, 9, 10], (.cons (.val (.list .str)) (.cons (.val (.list (.pair (.int .i64) (.pair (.int .i64) (.one (.list .str)))))) (.cons (.val (.int .i64)) (.cons (.own 9 (.pair (.int .i64) (.pair (.int .i64) (.one (.list (.pair (.int .i64) (.one .str))))))) (.cons (.val (.int .i64)) (.cons (.val (.int .i64)) (.cons (.val (.int .i64)) .nil)))))))⟩
def spec_l6Groups.D17 : CutD := ⟨[0, 1, 2, 7, 8, 9, 10], (.cons (.val (.list .str)) (.cons (.val (.list (.pair (.int .i64) (.pair (.int .i64) (.one (.list .str)))))) (.cons (.val (.int .i64)) (.cons (.own 9 (.pair (.int .i64) (.pair (.int .i64) (.one (.list (.pair (.int .i64) (.one .str))))))) (.cons (.val (.int .i64)) (.cons (.val (.int .i64)) (.cons (.val (.int .i64)) .nil)))))))⟩
def spec_l6Groups.D20 : CutD := ⟨[0, 1, 2, 7, 8, 10, 63, 64, 65], (.cons (.val (.list .str)) (.cons (.val (.list (.pair (.int .i64) (.pair (.int .i64) (.one (.list .str)))))) (.cons (.val (.int .i64)) (.cons (.own 9 (.pair (.int .i64) (.pair (.int .i64) (.one (.list (.pair (.int .i64) (.one .str))))))) (.cons (.val (.int .i64)) (.cons (.val (.int .i64)) (.cons (.val (.list (.pair (.int .i64) (.pair (.int .i64) (.one (.list .str)))))) (.cons (.val (.int .i64)) (.cons (.val (.int .i64)) .nil)))))))))⟩
noncomputable def spec_l6Groups.T : Tab := fun k => look k [(8, spec_l6Groups.D8), (12, spec_l6Groups.D12), (17, spec_l6Groups.D17), (20, spec_l6Groups.D20)]
def spec_l6Groups.R : List (Nat × Ty) := [(9, .list (.pair (.int .i64) (.pair (.int .i64) (.one (.list (.pair (.int .i64) (.one .str)))))))]
def spec_l6Groups.X : List ResultVar := [.tmp 6]
noncomputable def spec_l6Groups.K := fin spec_l6Groups.E ⟨spec_l6Groups.P, spec_l6Groups.R, fun _ _ => none⟩ spec_l6Groups.X spec_l6Groups.P.len 0
noncomputable def spec_l6Groups.l8 (l : List ByteArray) (h : List (Int × Int × List ByteArray)) (width : Int) (out : List (Int × Int × List (Int × ByteArray))) (more : Int) (i : Int) : Option ((List (Int × Int × List (Int × ByteArray)))) := fixP spec_l6Groups.E spec_l6Groups.T spec_l6Groups.C spec_l6Groups.K 8 spec_l6Groups.D8 (l, h, width, out, more, i)
noncomputable def spec_l6Groups.l12 (l : List ByteArray) (h : List (Int × Int × List ByteArray)) (width : Int) (out : List (Int × Int × List (Int × ByteArray))) (more : Int) (i : Int) (j : Int) : Option ((List (Int × Int × List (Int × ByteArray)))) := fixP spec_l6Groups.E spec_l6Groups.T spec_l6Groups.C spec_l6Groups.K 12 spec_l6Groups.D12 (l, h, width, out, more, i, j)
noncomputable def spec_l6Groups.l17 (l : List ByteArray) (h : List (Int × Int × List ByteArray)) (width : Int) (out : List (Int × Int × List (Int × ByteArray))) (more : Int) (i : Int) (j : Int) : Option ((List (Int × Int × List (Int × ByteArray)))) := fixP spec_l6Groups.E spec_l6Groups.T spec_l6Groups.C spec_l6Groups.K 17 spec_l6Groups.D17 (l, h, width, out, more, i, j)
noncomputable def spec_l6Groups.l20 (l : List ByteArray) (h : List (Int × Int × List ByteArray)) (width : Int) (out : List (Int × Int × List (Int × ByteArray))) (more : Int) (j : Int) (t63 : List (Int × Int × List ByteArray)) (t64 : Int) (t65 : Int) : Option ((List (Int × Int × List (Int × ByteArray)))) := fixP spec_l6Groups.E spec_l6Groups.T spec_l6Groups.C spec_l6Groups.K 20 spec_l6Groups.D20 (l, h, width, out, more, j, t63, t64, t65)
noncomputable def spec_l6Groups.f (l : List ByteArray) (h : List (Int × Int × List ByteArray)) (width : Int) : Option ((List (Int × Int × List (Int × ByteArray)))) := Fn spec_l6Groups.E spec_l6Groups.T spec_l6Groups.C spec_l6Groups.P spec_l6Groups.R spec_l6Groups.X (l, h, width)
theorem spec_l6Groups.l8_eq (l : List ByteArray) (h : List (Int × Int × List ByteArray)) (width : Int) (out : List (Int × Int × List (Int × ByteArray))) (more : Int) (i : Int) : spec_l6Groups.l8 l h width out more i =
  (bif (decide (i < (h.length : Int))) then (spec_l6Groups.l12 l h width out more i (w64 (i + 1))) else (some out)) :=
  (fixP_eq spec_l6Groups.E spec_l6Groups.T spec_l6Groups.C spec_l6Groups.K 8 spec_l6Groups.D8 (l, h, width, out, more, i)).trans (by kernel_rfl)
theorem spec_l6Groups.l12_eq (l : List ByteArray) (h : List (Int × Int × List ByteArray)) (width : Int) (out : List (Int × Int × List (Int × ByteArray))) (more : Int) (i : Int) (j : Int) : spec_l6Groups.l12 l h width out more i j =
  (bif (decide (j < (h.length : Int))) then (bif ((decide (0 ≤ j)) && (decide (j < (h.length : Int)))) then (bif ((decide (0 ≤ (w64 (j - 1)))) && (decide ((w64 (j - 1)) < (h.length : Int)))) then (bif ((decide (0 ≤ (w64 (j - 1)))) && (decide ((w64 (j - 1)) < (h.length : Int)))) then (bif (decide ((w64 ((h.getD (j).toNat (0, 0, ([] : List ByteArray))).1 - (w64 ((h.getD ((w64 (j - 1))).toNat (0, 0, ([] : List ByteArray))).1 + (h.getD ((w64 (j - 1))).toNat (0, 0, ([] : List ByteArray))).2.1)))) ≤ (w64 (2 * width)))) then (spec_l6Groups.l12 l h width out more i (w64 (j + 1))) else
      (spec_l6Groups.l17 l h width out more i j)) else none) else none) else none) else
  (spec_l6Groups.l17 l h width out more i j)) :=
  (fixP_eq spec_l6Groups.E spec_l6Groups.T spec_l6Groups.C spec_l6Groups.K 12 spec_l6Groups.D12 (l, h, width, out, more, i, j)).trans (by kernel_rfl)
theorem spec_l6Groups.l17_eq (l : List ByteArray) (h : List (Int × Int × List ByteArray)) (width : Int) (out : List (Int × Int × List (Int × ByteArray))) (more : Int) (i : Int) (j : Int) : spec_l6Groups.l17 l h width out more i j =
  (bif ((decide (0 ≤ i)) && ((decide (i ≤ j)) && (decide (j ≤ (h.length : Int))))) then ((spec_l6One.f l ((h.take (j).toNat).drop (i).toNat) width more).bind fun y13 =>
   bif (decide ((out.length + [(y13.1, y13.2.1, y13.2.2)].length) ≤ room 40)) then (bif ((decide (0 ≤ i)) && ((decide (i ≤ j)) && (decide (j ≤ (h.length : Int))))) then (spec_l6Groups.l20 l h width (out ++ [(y13.1, y13.2.1, y13.2.2)]) more j ((h.take (j).toNat).drop (i).toNat) (((h.take (j).toNat).drop (i).toNat).length : Int) 0) else none) else none) else none) :=
  (fixP_eq spec_l6Groups.E spec_l6Groups.T spec_l6Groups.C spec_l6Groups.K 17 spec_l6Groups.D17 (l, h, width, out, more, i, j)).trans (by kernel_rfl)
theorem spec_l6Groups.l20_eq (l : List ByteArray) (h : List (Int × Int × List ByteArray)) (width : Int) (out : List (Int × Int × List (Int × ByteArray))) (more : Int) (j : Int) (t63 : List (Int × Int × List ByteArray)) (t64 : Int) (t65 : Int) : spec_l6Groups.l20 l h width out more j t63 t64 t65 =
  (bif (decide (t65 < t64)) then (bif ((decide (0 ≤ t65)) && (decide (t65 < (t63.length : Int)))) then (spec_l6Groups.l20 l h width out (w64 (more + (w64 (((t63.getD (t65).toNat (0, 0, ([] : List ByteArray))).2.2.length : Int) - (t63.getD (t65).toNat (0, 0, ([] : List ByteArray))).2.1)))) j t63 t64 (w64 (t65 + 1))) else none) else
  (spec_l6Groups.l8 l h width out more j)) :=
  (fixP_eq spec_l6Groups.E spec_l6Groups.T spec_l6Groups.C spec_l6Groups.K 20 spec_l6Groups.D20 (l, h, width, out, more, j, t63, t64, t65)).trans (by kernel_rfl)
theorem spec_l6Groups.f_eq (l : List ByteArray) (h : List (Int × Int × List ByteArray)) (width : Int) : spec_l6Groups.f l h width =
  (spec_l6Groups.l8 l h width ([] : List (Int × Int × List (Int × ByteArray))) 0 0) := by kernel_rfl
noncomputable def spec_l6Groups.S : Abs.Sum := ⟨spec_l6Groups.P, spec_l6Groups.R, fun _ => Fn spec_l6Groups.E spec_l6Groups.T spec_l6Groups.C spec_l6Groups.P spec_l6Groups.R spec_l6Groups.X⟩
theorem spec_l6Groups.meets : Meets Try.prog 114 spec_l6Groups.S := meets_tab (S := spec_l6Groups.U) tabOk_all (AllMeets.cons spec_l6One.meets AllMeets.nil) (AllStill.cons (fun _ _ _ => rfl) AllStill.nil) follows (by kernel_rfl : Try.prog.funcs[114]? = some Try.f114) (by kernel_rfl) (by kernel_rfl) (by kernel_rfl)
noncomputable def spec_GroupsOf.C : Code := Try.f62.body.getD .skip
def spec_GroupsOf.P : Par := (.cons (.val (.list .str)) (.cons (.val (.list (.pair (.int .i64) (.pair (.int .i64) (.one (.list .str)))))) (.cons (.val (.int .i64)) .nil)))
noncomputable def spec_GroupsOf.U : SumTab := [(138, [], spec_Patch.S), (113, [], spec_l1In.S), (114, [], spec_l6Groups.S)]
noncomputable def spec_GroupsOf.E : Env := mkEnv TY AR spec_GroupsOf.U
noncomputable def spec_GroupsOf.T : Tab := fun k => look k []
def spec_GroupsOf.R : List (Nat × Ty) := [(9, .list (.pair (.int .i64) (.pair (.int .i64) (.one (.list (.pair (.int .i64) (.one .str))))))), (0, .bool)]
def spec_GroupsOf.X : List ResultVar := [.tmp 6, .tmp 7]
noncomputable def spec_GroupsOf.f (l : List ByteArray) (h : List (Int × Int × List ByteArray)) (width : Int) : Option ((List (Int × Int × List (Int × ByteArray))) × Bool) := Fn spec_GroupsOf.E spec_GroupsOf.T spec_GroupsOf.C spec_GroupsOf.P spec_GroupsOf.R spec_GroupsOf.X (l, h, width)
theorem spec_GroupsOf.f_eq (l : List ByteArray) (h : List (Int × Int × List ByteArray)) (width : Int) : spec_GroupsOf.f l h width =
  ((spec_Patch.f l h).bind fun y13 =>
  bif (!y13.2) then (some (([] : List (Int × Int × List (Int × ByteArray))), false)) else
  ((spec_l1In.f width 0 20).bind fun y14 =>
   bif (!y14) then (some (([] : List (Int × Int × List (Int × ByteArray))), false)) else
   ((spec_l6Groups.f l h width).bind fun y15 =>
    some (y15, true)))) := by kernel_rfl
noncomputable def spec_GroupsOf.S : Abs.Sum := ⟨spec_GroupsOf.P, spec_GroupsOf.R, fun _ => Fn spec_GroupsOf.E spec_GroupsOf.T spec_GroupsOf.C spec_GroupsOf.P spec_GroupsOf.R spec_GroupsOf.X⟩
theorem spec_GroupsOf.meets : Meets Try.prog 62 spec_GroupsOf.S := meets_tab (S := spec_GroupsOf.U) tabOk_all (AllMeets.cons spec_Patch.meets (AllMeets.cons spec_l1In.meets (AllMeets.cons spec_l6Groups.meets AllMeets.nil))) (AllStill.cons (fun _ _ _ => rfl) (AllStill.cons (fun _ _ _ => rfl) (AllStill.cons (fun _ _ _ => rfl) AllStill.nil))) follows (by kernel_rfl : Try.prog.funcs[62]? = some Try.f62) (by kernel_rfl) (by kernel_rfl) (by kernel_rfl)
noncomputable def spec_l1Cur_groups.C : Code := Try.f146.body.getD .skip
def spec_l1Cur_groups.P : Par := (.cons (.box 0 (.pair (.list (.int .u8)) (.pair (.int .i64) (.one (.int .u64))))) .nil)
noncomputable def spec_l1Cur_groups.U : SumTab := [(170, [], spec_l1Cur_text.S), (194, [], spec_l1Cur_hunks.S), (112, [], spec_l1Cur_among.S), (62, [], spec_GroupsOf.S), (116, [], spec_l1Cur_pick.S), (195, [], spec_l1Cur_of.S), (196, [], spec_l1Cur_one.S), (197, [], spec_l1Cur_other.S)]
def spec_l1Cur_groups.Z : List (Nat × List Nat) := [(2, [4]), (18, [4])]
noncomputable def spec_l1Cur_groups.E : Env := mkEnvZ TY AR spec_l1Cur_groups.U spec_l1Cur_groups.Z
def spec_l1Cur_groups.D35 : CutD := ⟨[0, 4, 5], (.cons (.box 0 (.pair (.list (.int .u8)) (.pair (.int .i64) (.one (.int .u64))))) (.cons (.val (.list .str)) (.cons (.own 8 (.pair (.int .i64) (.pair (.int .i64) (.one (.list (.pair (.int .i64) (.one .str))))))) .nil)))⟩
noncomputable def spec_l1Cur_groups.T : Tab := fun k => look k [(35, spec_l1Cur_groups.D35)]
def spec_l1Cur_groups.R : List (Nat × Ty) := [(0, .list .str), (9, .list (.pair (.int .i64) (.pair (.int .i64) (.one (.list (.pair (.int .i64) (.one .str)))))))]
def spec_l1Cur_groups.X : List ResultVar := [.tmp 2, .tmp 3]
noncomputable def spec_l1Cur_groups.K := fin spec_l1Cur_groups.E ⟨spec_l1Cur_groups.P, spec_l1Cur_groups.R, fun _ _ => none⟩ spec_l1Cur_groups.X spec_l1Cur_groups.P.len 0
noncomputable def spec_l1Cur_groups.l35 (c : (List Int) × Int × Int) (l : List ByteArray) (g : List (Int × Int × List (Int × ByteArray))) : Option ((List ByteArray) × (List (Int × Int × List (Int × ByteArray))) × ((List Int) × Int × Int)) := fixP spec_l1Cur_groups.E spec_l1Cur_groups.T spec_l1Cur_groups.C spec_l1Cur_groups.K 35 spec_l1Cur_groups.D35 (c, l, g)
noncomputable def spec_l1Cur_groups.f (c : (List Int) × Int × Int) : Option ((List ByteArray) × (List (Int × Int × List (Int × ByteArray))) × ((List Int) × Int × Int)) := Fn spec_l1Cur_groups.E spec_l1Cur_groups.T spec_l1Cur_groups.C spec_l1Cur_groups.P spec_l1Cur_groups.R spec_l1Cur_groups.X c
theorem spec_l1Cur_groups.l35_eq (c : (List Int) × Int × Int) (l : List ByteArray) (g : List (Int × Int × List (Int × ByteArray))) : spec_l1Cur_groups.l35 c l g =
  ((spec_l1Cur_one.f c 4).bind fun y25 =>
  bif y25.1 then ((spec_l1Cur_other.f y25.2 l).bind fun y26 =>
   some (y26.1, g, y26.2)) else (some (l, g, y25.2))) :=
  (fixP_eq spec_l1Cur_groups.E spec_l1Cur_groups.T spec_l1Cur_groups.C spec_l1Cur_groups.K 35 spec_l1Cur_groups.D35 (c, l, g)).trans (by kernel_rfl)
theorem spec_l1Cur_groups.f_eq (c : (List Int) × Int × Int) : spec_l1Cur_groups.f c =
  ((spec_l1Cur_text.f c).bind fun y25 =>
  (spec_l1Cur_hunks.f y25.2 y25.1).bind fun y26 =>
  (spec_l1Cur_among.f y26.2 [0, 1, 2, 3]).bind fun y27 =>
  (spec_GroupsOf.f y25.1 y26.1 y27.1).bind fun y28 =>
  bif (decide ((y28.1.length : Int) > 0)) then ((spec_l1Cur_pick.f y27.2 (y28.1.length : Int)).bind fun y29 =>
   bif ((decide (0 ≤ y29.1)) && (decide (y29.1 < (y28.1.length : Int)))) then ((spec_l1Cur_pick.f y29.2 ((y28.1.getD (y29.1).toNat (0, 0, ([] : List (Int × ByteArray)))).2.2.length : Int)).bind fun y30 =>
    (spec_l1Cur_pick.f y30.2 15).bind fun y31 =>
    bif (decide (y31.1 = 0)) then (bif ((decide (0 ≤ y29.1)) && (decide (y29.1 < (y28.1.length : Int)))) then (bif ((decide (0 ≤ y29.1)) && (decide (y29.1 < (y28.1.length : Int)))) then (spec_l1Cur_groups.l35 y31.2 y25.1 (y28.1.set (y29.1).toNat ((w64 ((y28.1.getD (y29.1).toNat (0, 0, ([] : List (Int × ByteArray)))).1 + 1)), (y28.1.getD (y29.1).toNat (0, 0, ([] : List (Int × ByteArray)))).2))) else none) else none) else
    (bif (decide (y31.1 = 1)) then (bif ((decide (0 ≤ y29.1)) && (decide (y29.1 < (y28.1.length : Int)))) then (bif ((decide (0 ≤ y29.1)) && (decide (y29.1 < (y28.1.length : Int)))) then (spec_l1Cur_groups.l35 y31.2 y25.1 (y28.1.set (y29.1).toNat ((y28.1.getD (y29.1).toNat (0, 0, ([] : List (Int × ByteArray)))).1, (w64 ((y28.1.getD (y29.1).toNat (0, 0, ([] : List (Int × ByteArray)))).2.1 + 1)), (y28.1.getD (y29.1).toNat (0, 0, ([] : List (Int × ByteArray)))).2.2))) else none) else none) else
     (bif (decide (y31.1 = 2)) then (bif ((decide (0 ≤ y29.1)) && (decide (y29.1 < (y28.1.length : Int)))) then ((spec_l1Cur_pick.f y31.2 5).bind fun y32 =>
        bif ((decide (0 ≤ y30.1)) && (decide (y30.1 < ((y28.1.getD (y29.1).toNat (0, 0, ([] : List (Int × ByteArray)))).2.2.length : Int)))) then (spec_l1Cur_groups.l35 y32.2 y25.1 (y28.1.set (y29.1).toNat ((y28.1.getD (y29.1).toNat (0, 0, ([] : List (Int × ByteArray)))).1, (y28.1.getD (y29.1).toNat (0, 0, ([] : List (Int × ByteArray)))).2.1, ((y28.1.getD (y29.1).toNat (0, 0, ([] : List (Int × ByteArray)))).2.2.set (y30.1).toNat (y32.1, ((y28.1.getD (y29.1).toNat (0, 0, ([] : List (Int × ByteArray)))).2.2.getD (y30.1).toNat (0, em)).2))))) else none) else none) else
      (bif (decide (y31.1 = 3)) then (bif ((decide (0 ≤ y29.1)) && (decide (y29.1 < (y28.1.length : Int)))) then ((spec_l1Cur_of.f y31.2 [em, (⟨#[122, 10]⟩ : ByteArray), (⟨#[122]⟩ : ByteArray)]).bind fun y32 =>
         bif ((decide (0 ≤ y30.1)) && (decide (y30.1 < ((y28.1.getD (y29.1).toNat (0, 0, ([] : List (Int × ByteArray)))).2.2.length : Int)))) then (spec_l1Cur_groups.l35 y32.2 y25.1 (y28.1.set (y29.1).toNat ((y28.1.getD (y29.1).toNat (0, 0, ([] : List (Int × ByteArray)))).1, (y28.1.getD (y29.1).toNat (0, 0, ([] : List (Int × ByteArray)))).2.1, ((y28.1.getD (y29.1).toNat (0, 0, ([] : List (Int × ByteArray)))).2.2.set (y30.1).toNat (((y28.1.getD (y29.1).toNat (0, 0, ([] : List (Int × ByteArray)))).2.2.getD (y30.1).toNat (0, em)).1, y32.1))))) else none) else none) else
       (bif (decide (y31.1 = 4)) then (bif ((decide (0 ≤ y29.1)) && (decide (y29.1 < (y28.1.length : Int)))) then (bif ((decide (0 ≤ y29.1)) && (decide (y29.1 < (y28.1.length : Int)))) then (spec_l1Cur_groups.l35 y31.2 y25.1 (y28.1.set (y29.1).toNat ((w64 ((y28.1.getD (y29.1).toNat (0, 0, ([] : List (Int × ByteArray)))).1 + 30)), (y28.1.getD (y29.1).toNat (0, 0, ([] : List (Int × ByteArray)))).2))) else none) else none) else
        (spec_l1Cur_groups.l35 y31.2 y25.1 y28.1)))))) else none) else
  (spec_l1Cur_groups.l35 y27.2 y25.1 y28.1)) := by kernel_rfl
noncomputable def spec_l1Cur_groups.S : Abs.Sum := ⟨spec_l1Cur_groups.P, spec_l1Cur_groups.R, fun _ => Fn spec_l1Cur_groups.E spec_l1Cur_groups.T spec_l1Cur_groups.C spec_l1Cur_groups.P spec_l1Cur_groups.R spec_l1Cur_groups.X⟩
theorem spec_l1Cur_groups.meets : Meets Try.prog 146 spec_l1Cur_groups.S := meets_tabZ spec_l1Cur_groups.Z (S := spec_l1Cur_groups.U) tabOk_all (AllMeets.cons spec_l1Cur_text.meets (AllMeets.cons spec_l1Cur_hunks.meets (AllMeets.cons spec_l1Cur_among.meets (AllMeets.cons spec_GroupsOf.meets (AllMeets.cons spec_l1Cur_pick.meets (AllMeets.cons spec_l1Cur_of.meets (AllMeets.cons spec_l1Cur_one.meets (AllMeets.cons spec_l1Cur_other.meets AllMeets.nil)))))))) (AllStill.cons (fun _ _ _ => rfl) (AllStill.cons (fun _ _ _ => rfl) (AllStill.cons (fun _ _ _ => rfl) (AllStill.cons (fun _ _ _ => rfl) (AllStill.cons (fun _ _ _ => rfl) (AllStill.cons (fun _ _ _ => rfl) (AllStill.cons (fun _ _ _ => rfl) (AllStill.cons (fun _ _ _ => rfl) AllStill.nil)))))))) follows (by kernel_rfl : Try.prog.funcs[146]? = some Try.f146) (by kernel_rfl) (by kernel_rfl) (by kernel_rfl)
noncomputable def spec_DrawGoodGroups.C : Code := Try.f103.body.getD .skip
def spec_DrawGoodGroups.P : Par := (.cons (.val (.list (.int .u8))) .nil)
noncomputable def spec_DrawGoodGroups.U : SumTab := [(146, [], spec_l1Cur_groups.S)]
noncomputable def spec_DrawGoodGroups.E : Env := mkEnv TY AR spec_DrawGoodGroups.U
noncomputable def spec_DrawGoodGroups.T : Tab := fun k => look k []
def spec_DrawGoodGroups.R : List (Nat × Ty) := [(9, .list (.pair (.int .i64) (.pair (.int .i64) (.one (.list (.pair (.int .i64) (.one .str)))))))]
def spec_DrawGoodGroups.X : List ResultVar := [.tmp 2]
noncomputable def spec_DrawGoodGroups.f (code : List Int) : Option ((List (Int × Int × List (Int × ByteArray)))) := Fn spec_DrawGoodGroups.E spec_DrawGoodGroups.T spec_DrawGoodGroups.C spec_DrawGoodGroups.P spec_DrawGoodGroups.R spec_DrawGoodGroups.X code
theorem spec_DrawGoodGroups.f_eq (code : List Int) : spec_DrawGoodGroups.f code =
  ((spec_l1Cur_groups.f (code, 0, 0)).bind fun y25 =>
  some y25.2.1) := by kernel_rfl
noncomputable def spec_DrawGoodGroups.S : Abs.Sum := ⟨spec_DrawGoodGroups.P, spec_DrawGoodGroups.R, fun _ => Fn spec_DrawGoodGroups.E spec_DrawGoodGroups.T spec_DrawGoodGroups.C spec_DrawGoodGroups.P spec_DrawGoodGroups.R spec_DrawGoodGroups.X⟩
theorem spec_DrawGoodGroups.meets : Meets Try.prog 103 spec_DrawGoodGroups.S := meets_tab (S := spec_DrawGoodGroups.U) tabOk_all (AllMeets.cons spec_l1Cur_groups.meets AllMeets.nil) (AllStill.cons (fun _ _ _ => rfl) AllStill.nil) follows (by kernel_rfl : Try.prog.funcs[103]? = some Try.f103) (by kernel_rfl) (by kernel_rfl) (by kernel_rfl)
noncomputable def spec_DrawOldOf.C : Code := Try.f29.body.getD .skip
def spec_DrawOldOf.P : Par := (.cons (.val (.list (.int .u8))) .nil)
noncomputable def spec_DrawOldOf.U : SumTab := [(103, [], spec_DrawGoodGroups.S)]
def spec_DrawOldOf.Z : List (Nat × List Nat) := [(4, [3])]
noncomputable def spec_DrawOldOf.E : Env := mkEnvZ TY AR spec_DrawOldOf.U spec_DrawOldOf.Z
noncomputable def spec_DrawOldOf.T : Tab := fun k => look k []
def spec_DrawOldOf.R : List (Nat × Ty) := [(0, .pair (.int .i64) (.pair (.int .i64) (.one (.list (.pair (.int .i64) (.one .str))))))]
def spec_DrawOldOf.X : List ResultVar := [.cell 2 53]
noncomputable def spec_DrawOldOf.f (code : List Int) : Option ((Int × Int × List (Int × ByteArray))) := Fn spec_DrawOldOf.E spec_DrawOldOf.T spec_DrawOldOf.C spec_DrawOldOf.P spec_DrawOldOf.R spec_DrawOldOf.X code
theorem spec_DrawOldOf.f_eq (code : List Int) : spec_DrawOldOf.f code =
  ((spec_DrawGoodGroups.f code).bind fun y28 =>
  bif (decide ((y28.length : Int) = 0)) then (some (0, 0, [(3, (⟨#[97, 10]⟩ : ByteArray))])) else
  (bif (decide (0 < (y28.length : Int))) then (some (y28.getD 0 (0, 0, ([] : List (Int × ByteArray))))) else none)) := by kernel_rfl
noncomputable def spec_DrawOldOf.S : Abs.Sum := ⟨spec_DrawOldOf.P, spec_DrawOldOf.R, fun _ => Fn spec_DrawOldOf.E spec_DrawOldOf.T spec_DrawOldOf.C spec_DrawOldOf.P spec_DrawOldOf.R spec_DrawOldOf.X⟩
theorem spec_DrawOldOf.meets : Meets Try.prog 29 spec_DrawOldOf.S := meets_tabZ spec_DrawOldOf.Z (S := spec_DrawOldOf.U) tabOk_all (AllMeets.cons spec_DrawGoodGroups.meets AllMeets.nil) (AllStill.cons (fun _ _ _ => rfl) AllStill.nil) follows (by kernel_rfl : Try.prog.funcs[29]? = some Try.f29) (by kernel_rfl) (by kernel_rfl) (by kernel_rfl)
noncomputable def impl_sideOf.C : Code := Try.f173.body.getD .skip
def impl_sideOf.P : Par := (.cons (.val (.list (.pair (.int .i64) (.one .str)))) (.cons (.val (.int .i64)) .nil))
noncomputable def impl_sideOf.U : SumTab := []
noncomputable def impl_sideOf.E : Env := mkEnv TY AR impl_sideOf.U
def impl_sideOf.D6 : CutD := ⟨[1, 5, 9, 10, 11], (.cons (.val (.int .i64)) (.cons (.own 9 .str) (.cons (.val (.list (.pair (.int .i64) (.one .str)))) (.cons (.val (.int .i64)) (.cons (.val (.int .i64)) .nil)))))⟩
noncomputable def impl_sideOf.T : Tab := fun k => look k [(6, impl_sideOf.D6)]
def impl_sideOf.R : List (Nat × Ty) := [(9, .list .str)]
def impl_sideOf.X : List ResultVar := [.tmp 4]
noncomputable def impl_sideOf.K := fin impl_sideOf.E ⟨impl_sideOf.P, impl_sideOf.R, fun _ _ => none⟩ impl_sideOf.X impl_sideOf.P.len 0
noncomputable def impl_sideOf.l6 (not : Int) (out : List ByteArray) (t9 : List (Int × ByteArray)) (t10 : Int) (t11 : Int) : Option ((List ByteArray)) := fixP impl_sideOf.E impl_sideOf.T impl_sideOf.C impl_sideOf.K 6 impl_sideOf.D6 (not, out, t9, t10, t11)
noncomputable def impl_sideOf.f (rows : List (Int × ByteArray)) (not : Int) : Option ((List ByteArray)) := Fn impl_sideOf.E impl_sideOf.T impl_sideOf.C impl_sideOf.P impl_sideOf.R impl_sideOf.X (rows, not)
theorem impl_sideOf.l6_eq (not : Int) (out : List ByteArray) (t9 : List (Int × ByteArray)) (t10 : Int) (t11 : Int) : impl_sideOf.l6 not out t9 t10 t11 =
  (bif (decide (t11 < t10)) then (bif ((decide (0 ≤ t11)) && (decide (t11 < (t9.length : Int)))) then (bif (!(decide ((t9.getD (t11).toNat (0, em)).1 = not))) then (bif (decide ((out.length + [(t9.getD (t11).toNat (0, em)).2].length) ≤ room 16)) then (impl_sideOf.l6 not (out ++ [(t9.getD (t11).toNat (0, em)).2]) t9 t10 (w64 (t11 + 1))) else none) else
    (impl_sideOf.l6 not out t9 t10 (w64 (t11 + 1)))) else none) else (some out)) :=
  (fixP_eq impl_sideOf.E impl_sideOf.T impl_sideOf.C impl_sideOf.K 6 impl_sideOf.D6 (not, out, t9, t10, t11)).trans (by kernel_rfl)
theorem impl_sideOf.f_eq (rows : List (Int × ByteArray)) (not : Int) : impl_sideOf.f rows not =
  (impl_sideOf.l6 not ([] : List ByteArray) rows (rows.length : Int) 0) := by kernel_rfl
noncomputable def impl_sideOf.S : Abs.Sum := ⟨impl_sideOf.P, impl_sideOf.R, fun _ => Fn impl_sideOf.E impl_sideOf.T impl_sideOf.C impl_sideOf.P impl_sideOf.R impl_sideOf.X⟩
theorem impl_sideOf.meets : Meets Try.prog 173 impl_sideOf.S := meets_tab (S := impl_sideOf.U) tabOk_all AllMeets.nil AllStill.nil follows (by kernel_rfl : Try.prog.funcs[173]? = some Try.f173) (by kernel_rfl) (by kernel_rfl) (by kernel_rfl)
noncomputable def impl_Group_old.C : Code := Try.f105.body.getD .skip
def impl_Group_old.P : Par := (.cons (.val (.pair (.int .i64) (.pair (.int .i64) (.one (.list (.pair (.int .i64) (.one .str))))))) .nil)
noncomputable def impl_Group_old.U : SumTab := [(173, [], impl_sideOf.S)]
noncomputable def impl_Group_old.E : Env := mkEnv TY AR impl_Group_old.U
noncomputable def impl_Group_old.T : Tab := fun k => look k []
def impl_Group_old.R : List (Nat × Ty) := [(9, .list .str)]
def impl_Group_old.X : List ResultVar := [.tmp 2]
noncomputable def impl_Group_old.f (g : Int × Int × List (Int × ByteArray)) : Option ((List ByteArray)) := Fn impl_Group_old.E impl_Group_old.T impl_Group_old.C impl_Group_old.P impl_Group_old.R impl_Group_old.X g
theorem impl_Group_old.f_eq (g : Int × Int × List (Int × ByteArray)) : impl_Group_old.f g =
  ((impl_sideOf.f g.2.2 3).bind fun y28 =>
  some y28) := by kernel_rfl
noncomputable def impl_Group_old.S : Abs.Sum := ⟨impl_Group_old.P, impl_Group_old.R, fun _ => Fn impl_Group_old.E impl_Group_old.T impl_Group_old.C impl_Group_old.P impl_Group_old.R impl_Group_old.X⟩
theorem impl_Group_old.meets : Meets Try.prog 105 impl_Group_old.S := meets_tab (S := impl_Group_old.U) tabOk_all (AllMeets.cons impl_sideOf.meets AllMeets.nil) (AllStill.cons (fun _ _ _ => rfl) AllStill.nil) follows (by kernel_rfl : Try.prog.funcs[105]? = some Try.f105) (by kernel_rfl) (by kernel_rfl) (by kernel_rfl)
noncomputable def impl_Group_fresh.C : Code := Try.f108.body.getD .skip
def impl_Group_fresh.P : Par := (.cons (.val (.pair (.int .i64) (.pair (.int .i64) (.one (.list (.pair (.int .i64) (.one .str))))))) .nil)
noncomputable def impl_Group_fresh.U : SumTab := [(173, [], impl_sideOf.S)]
noncomputable def impl_Group_fresh.E : Env := mkEnv TY AR impl_Group_fresh.U
noncomputable def impl_Group_fresh.T : Tab := fun k => look k []
def impl_Group_fresh.R : List (Nat × Ty) := [(9, .list .str)]
def impl_Group_fresh.X : List ResultVar := [.tmp 2]
noncomputable def impl_Group_fresh.f (g : Int × Int × List (Int × ByteArray)) : Option ((List ByteArray)) := Fn impl_Group_fresh.E impl_Group_fresh.T impl_Group_fresh.C impl_Group_fresh.P impl_Group_fresh.R impl_Group_fresh.X g
theorem impl_Group_fresh.f_eq (g : Int × Int × List (Int × ByteArray)) : impl_Group_fresh.f g =
  ((impl_sideOf.f g.2.2 2).bind fun y28 =>
  some y28) := by kernel_rfl
noncomputable def impl_Group_fresh.S : Abs.Sum := ⟨impl_Group_fresh.P, impl_Group_fresh.R, fun _ => Fn impl_Group_fresh.E impl_Group_fresh.T impl_Group_fresh.C impl_Group_fresh.P impl_Group_fresh.R impl_Group_fresh.X⟩
theorem impl_Group_fresh.meets : Meets Try.prog 108 impl_Group_fresh.S := meets_tab (S := impl_Group_fresh.U) tabOk_all (AllMeets.cons impl_sideOf.meets AllMeets.nil) (AllStill.cons (fun _ _ _ => rfl) AllStill.nil) follows (by kernel_rfl : Try.prog.funcs[108]? = some Try.f108) (by kernel_rfl) (by kernel_rfl) (by kernel_rfl)
noncomputable def impl_goodGroup.C : Code := Try.f104.body.getD .skip
def impl_goodGroup.P : Par := (.cons (.val (.pair (.int .i64) (.pair (.int .i64) (.one (.list (.pair (.int .i64) (.one .str))))))) .nil)
noncomputable def impl_goodGroup.U : SumTab := [(98, [], impl_in.S), (172, [], impl_isLine.S), (105, [], impl_Group_old.S), (108, [], impl_Group_fresh.S), (127, [], impl_goodLines.S)]
noncomputable def impl_goodGroup.E : Env := mkEnv TY AR impl_goodGroup.U
def impl_goodGroup.D7 : CutD := ⟨[1], (.cons (.box 0 (.pair (.int .i64) (.pair (.int .i64) (.one (.list (.pair (.int .i64) (.one .str))))))) .nil)⟩
def impl_goodGroup.D10 : CutD := ⟨[1, 3, 26, 27, 28], (.cons (.box 0 (.pair (.int .i64) (.pair (.int .i64) (.one (.list (.pair (.int .i64) (.one .str))))))) (.cons (.val .bool) (.cons (.val (.list (.pair (.int .i64) (.one .str)))) (.cons (.val (.int .i64)) (.cons (.val (.int .i64)) .nil)))))⟩
def impl_goodGroup.D19 : CutD := ⟨[1, 3, 5, 26, 27, 28], (.cons (.box 0 (.pair (.int .i64) (.pair (.int .i64) (.one (.list (.pair (.int .i64) (.one .str))))))) (.cons (.val .bool) (.cons (.box 9 (.pair (.int .i64) (.one .str))) (.cons (.val (.list (.pair (.int .i64) (.one .str)))) (.cons (.val (.int .i64)) (.cons (.val (.int .i64)) .nil))))))⟩
noncomputable def impl_goodGroup.T : Tab := fun k => look k [(7, impl_goodGroup.D7), (10, impl_goodGroup.D10), (19, impl_goodGroup.D19)]
def impl_goodGroup.R : List (Nat × Ty) := [(0, .bool)]
def impl_goodGroup.X : List ResultVar := [.tmp 2]
noncomputable def impl_goodGroup.K := fin impl_goodGroup.E ⟨impl_goodGroup.P, impl_goodGroup.R, fun _ _ => none⟩ impl_goodGroup.X impl_goodGroup.P.len 0
noncomputable def impl_goodGroup.l7 (g : Int × Int × List (Int × ByteArray)) : Option (Bool) := fixP impl_goodGroup.E impl_goodGroup.T impl_goodGroup.C impl_goodGroup.K 7 impl_goodGroup.D7 g
noncomputable def impl_goodGroup.l10 (g : Int × Int × List (Int × ByteArray)) (changes : Bool) (t26 : List (Int × ByteArray)) (t27 : Int) (t28 : Int) : Option (Bool) := fixP impl_goodGroup.E impl_goodGroup.T impl_goodGroup.C impl_goodGroup.K 10 impl_goodGroup.D10 (g, changes, t26, t27, t28)
noncomputable def impl_goodGroup.l19 (g : Int × Int × List (Int × ByteArray)) (changes : Bool) (r : Int × ByteArray) (t26 : List (Int × ByteArray)) (t27 : Int) (t28 : Int) : Option (Bool) := fixP impl_goodGroup.E impl_goodGroup.T impl_goodGroup.C impl_goodGroup.K 19 impl_goodGroup.D19 (g, changes, r, t26, t27, t28)
noncomputable def impl_goodGroup.f (g : Int × Int × List (Int × ByteArray)) : Option (Bool) := Fn impl_goodGroup.E impl_goodGroup.T impl_goodGroup.C impl_goodGroup.P impl_goodGroup.R impl_goodGroup.X g
theorem impl_goodGroup.l7_eq (g : Int × Int × List (Int × ByteArray)) : impl_goodGroup.l7 g =
  (impl_goodGroup.l10 g false g.2.2 (g.2.2.length : Int) 0) :=
  (fixP_eq impl_goodGroup.E impl_goodGroup.T impl_goodGroup.C impl_goodGroup.K 7 impl_goodGroup.D7 g).trans (by kernel_rfl)
theorem impl_goodGroup.l10_eq (g : Int × Int × List (Int × ByteArray)) (changes : Bool) (t26 : List (Int × ByteArray)) (t27 : Int) (t28 : Int) : impl_goodGroup.l10 g changes t26 t27 t28 =
  (bif (decide (t28 < t27)) then (bif ((decide (0 ≤ t28)) && (decide (t28 < (t26.length : Int)))) then ((impl_in.f (t26.getD (t28).toNat (0, em)).1 1 3).bind fun y28 =>
    bif (!y28) then (some false) else
    ((impl_isLine.f (t26.getD (t28).toNat (0, em)).2).bind fun y29 =>
     bif (!y29) then (some false) else
     (bif (decide (t28 > 0)) then (bif (decide ((t26.getD (t28).toNat (0, em)).1 = 2)) then (bif ((decide (0 ≤ (w64 (t28 - 1)))) && (decide ((w64 (t28 - 1)) < (g.2.2.length : Int)))) then (bif (decide ((g.2.2.getD ((w64 (t28 - 1))).toNat (0, em)).1 = 3)) then (some false) else
         (impl_goodGroup.l19 g changes (t26.getD (t28).toNat (0, em)) t26 t27 t28)) else none) else
       (impl_goodGroup.l19 g changes (t26.getD (t28).toNat (0, em)) t26 t27 t28)) else
      (impl_goodGroup.l19 g changes (t26.getD (t28).toNat (0, em)) t26 t27 t28)))) else none) else
  ((impl_Group_old.f g).bind fun y28 =>
   (impl_Group_fresh.f g).bind fun y29 =>
   bif changes then ((impl_goodLines.f y28).bind fun y30 =>
    bif y30 then ((impl_goodLines.f y29).bind fun y31 =>
     bif y31 then (bif (decide ((w64 (g.1 + (y28.length : Int))) ≤ 1000)) then (some (decide ((w64 (g.2.1 + (y29.length : Int))) ≤ 1000))) else (some false)) else (some false)) else (some false)) else (some false))) :=
  (fixP_eq impl_goodGroup.E impl_goodGroup.T impl_goodGroup.C impl_goodGroup.K 10 impl_goodGroup.D10 (g, changes, t26, t27, t28)).trans (by kernel_rfl)
theorem impl_goodGroup.l19_eq (g : Int × Int × List (Int × ByteArray)) (changes : Bool) (r : Int × ByteArray) (t26 : List (Int × ByteArray)) (t27 : Int) (t28 : Int) : impl_goodGroup.l19 g changes r t26 t27 t28 =
  (bif changes then (impl_goodGroup.l10 g true t26 t27 (w64 (t28 + 1))) else
  (impl_goodGroup.l10 g (!(decide (r.1 = 1))) t26 t27 (w64 (t28 + 1)))) :=
  (fixP_eq impl_goodGroup.E impl_goodGroup.T impl_goodGroup.C impl_goodGroup.K 19 impl_goodGroup.D19 (g, changes, r, t26, t27, t28)).trans (by kernel_rfl)
theorem impl_goodGroup.f_eq (g : Int × Int × List (Int × ByteArray)) : impl_goodGroup.f g =
  ((impl_in.f g.1 0 999).bind fun y28 =>
  bif (!y28) then (some false) else
  ((impl_in.f g.2.1 0 999).bind fun y29 =>
   bif (!y29) then (some false) else
   ((impl_in.f (g.2.2.length : Int) 1 80).bind fun y30 =>
    bif (!y30) then (some false) else
    (impl_goodGroup.l7 g)))) := by kernel_rfl
noncomputable def impl_goodGroup.S : Abs.Sum := ⟨impl_goodGroup.P, impl_goodGroup.R, fun _ => Fn impl_goodGroup.E impl_goodGroup.T impl_goodGroup.C impl_goodGroup.P impl_goodGroup.R impl_goodGroup.X⟩
theorem impl_goodGroup.meets : Meets Try.prog 104 impl_goodGroup.S := meets_tab (S := impl_goodGroup.U) tabOk_all (AllMeets.cons impl_in.meets (AllMeets.cons impl_isLine.meets (AllMeets.cons impl_Group_old.meets (AllMeets.cons impl_Group_fresh.meets (AllMeets.cons impl_goodLines.meets AllMeets.nil))))) (AllStill.cons (fun _ _ _ => rfl) (AllStill.cons (fun _ _ _ => rfl) (AllStill.cons (fun _ _ _ => rfl) (AllStill.cons (fun _ _ _ => rfl) (AllStill.cons (fun _ _ _ => rfl) AllStill.nil))))) follows (by kernel_rfl : Try.prog.funcs[104]? = some Try.f104) (by kernel_rfl) (by kernel_rfl) (by kernel_rfl)
noncomputable def impl_OldOf.C : Code := Try.f30.body.getD .skip
def impl_OldOf.P : Par := (.cons (.val (.pair (.int .i64) (.pair (.int .i64) (.one (.list (.pair (.int .i64) (.one .str))))))) .nil)
noncomputable def impl_OldOf.U : SumTab := [(104, [], impl_goodGroup.S), (105, [], impl_Group_old.S)]
noncomputable def impl_OldOf.E : Env := mkEnv TY AR impl_OldOf.U
noncomputable def impl_OldOf.T : Tab := fun k => look k []
def impl_OldOf.R : List (Nat × Ty) := [(9, .list .str), (0, .bool)]
def impl_OldOf.X : List ResultVar := [.tmp 2, .tmp 3]
noncomputable def impl_OldOf.f (g : Int × Int × List (Int × ByteArray)) : Option ((List ByteArray) × Bool) := Fn impl_OldOf.E impl_OldOf.T impl_OldOf.C impl_OldOf.P impl_OldOf.R impl_OldOf.X g
theorem impl_OldOf.f_eq (g : Int × Int × List (Int × ByteArray)) : impl_OldOf.f g =
  ((impl_goodGroup.f g).bind fun y28 =>
  bif (!y28) then (some (([] : List ByteArray), false)) else
  ((impl_Group_old.f g).bind fun y29 =>
   some (y29, true))) := by kernel_rfl
noncomputable def impl_OldOf.S : Abs.Sum := ⟨impl_OldOf.P, impl_OldOf.R, fun _ => Fn impl_OldOf.E impl_OldOf.T impl_OldOf.C impl_OldOf.P impl_OldOf.R impl_OldOf.X⟩
theorem impl_OldOf.meets : Meets Try.prog 30 impl_OldOf.S := meets_tab (S := impl_OldOf.U) tabOk_all (AllMeets.cons impl_goodGroup.meets (AllMeets.cons impl_Group_old.meets AllMeets.nil)) (AllStill.cons (fun _ _ _ => rfl) (AllStill.cons (fun _ _ _ => rfl) AllStill.nil)) follows (by kernel_rfl : Try.prog.funcs[30]? = some Try.f30) (by kernel_rfl) (by kernel_rfl) (by kernel_rfl)
noncomputable def spec_l6Old.C : Code := Try.f107.body.getD .skip
def spec_l6Old.P : Par := (.cons (.val (.pair (.int .i64) (.pair (.int .i64) (.one (.list (.pair (.int .i64) (.one .str))))))) .nil)
noncomputable def spec_l6Old.U : SumTab := []
noncomputable def spec_l6Old.E : Env := mkEnv TY AR spec_l6Old.U
def spec_l6Old.D6 : CutD := ⟨[3, 7, 8, 9], (.cons (.own 9 .str) (.cons (.val (.list (.pair (.int .i64) (.one .str)))) (.cons (.val (.int .i64)) (.cons (.val (.int .i64)) .nil))))⟩
noncomputable def spec_l6Old.T : Tab := fun k => look k [(6, spec_l6Old.D6)]
def spec_l6Old.R : List (Nat × Ty) := [(9, .list .str)]
def spec_l6Old.X : List ResultVar := [.tmp 2]
noncomputable def spec_l6Old.K := fin spec_l6Old.E ⟨spec_l6Old.P, spec_l6Old.R, fun _ _ => none⟩ spec_l6Old.X spec_l6Old.P.len 0
noncomputable def spec_l6Old.l6 (out : List ByteArray) (t7 : List (Int × ByteArray)) (t8 : Int) (t9 : Int) : Option ((List ByteArray)) := fixP spec_l6Old.E spec_l6Old.T spec_l6Old.C spec_l6Old.K 6 spec_l6Old.D6 (out, t7, t8, t9)
noncomputable def spec_l6Old.f (g : Int × Int × List (Int × ByteArray)) : Option ((List ByteArray)) := Fn spec_l6Old.E spec_l6Old.T spec_l6Old.C spec_l6Old.P spec_l6Old.R spec_l6Old.X g
theorem spec_l6Old.l6_eq (out : List ByteArray) (t7 : List (Int × ByteArray)) (t8 : Int) (t9 : Int) : spec_l6Old.l6 out t7 t8 t9 =
  (bif (decide (t9 < t8)) then (bif ((decide (0 ≤ t9)) && (decide (t9 < (t7.length : Int)))) then (bif (!(decide ((t7.getD (t9).toNat (0, em)).1 = 3))) then (bif (decide ((out.length + [(t7.getD (t9).toNat (0, em)).2].length) ≤ room 16)) then (spec_l6Old.l6 (out ++ [(t7.getD (t9).toNat (0, em)).2]) t7 t8 (w64 (t9 + 1))) else none) else
    (spec_l6Old.l6 out t7 t8 (w64 (t9 + 1)))) else none) else (some out)) :=
  (fixP_eq spec_l6Old.E spec_l6Old.T spec_l6Old.C spec_l6Old.K 6 spec_l6Old.D6 (out, t7, t8, t9)).trans (by kernel_rfl)
theorem spec_l6Old.f_eq (g : Int × Int × List (Int × ByteArray)) : spec_l6Old.f g =
  (spec_l6Old.l6 ([] : List ByteArray) g.2.2 (g.2.2.length : Int) 0) := by kernel_rfl
noncomputable def spec_l6Old.S : Abs.Sum := ⟨spec_l6Old.P, spec_l6Old.R, fun _ => Fn spec_l6Old.E spec_l6Old.T spec_l6Old.C spec_l6Old.P spec_l6Old.R spec_l6Old.X⟩
theorem spec_l6Old.meets : Meets Try.prog 107 spec_l6Old.S := meets_tab (S := spec_l6Old.U) tabOk_all AllMeets.nil AllStill.nil follows (by kernel_rfl : Try.prog.funcs[107]? = some Try.f107) (by kernel_rfl) (by kernel_rfl) (by kernel_rfl)
noncomputable def spec_l6New.C : Code := Try.f109.body.getD .skip
def spec_l6New.P : Par := (.cons (.val (.pair (.int .i64) (.pair (.int .i64) (.one (.list (.pair (.int .i64) (.one .str))))))) .nil)
noncomputable def spec_l6New.U : SumTab := []
noncomputable def spec_l6New.E : Env := mkEnv TY AR spec_l6New.U
def spec_l6New.D6 : CutD := ⟨[3, 7, 8, 9], (.cons (.own 9 .str) (.cons (.val (.list (.pair (.int .i64) (.one .str)))) (.cons (.val (.int .i64)) (.cons (.val (.int .i64)) .nil))))⟩
noncomputable def spec_l6New.T : Tab := fun k => look k [(6, spec_l6New.D6)]
def spec_l6New.R : List (Nat × Ty) := [(9, .list .str)]
def spec_l6New.X : List ResultVar := [.tmp 2]
noncomputable def spec_l6New.K := fin spec_l6New.E ⟨spec_l6New.P, spec_l6New.R, fun _ _ => none⟩ spec_l6New.X spec_l6New.P.len 0
noncomputable def spec_l6New.l6 (out : List ByteArray) (t7 : List (Int × ByteArray)) (t8 : Int) (t9 : Int) : Option ((List ByteArray)) := fixP spec_l6New.E spec_l6New.T spec_l6New.C spec_l6New.K 6 spec_l6New.D6 (out, t7, t8, t9)
noncomputable def spec_l6New.f (g : Int × Int × List (Int × ByteArray)) : Option ((List ByteArray)) := Fn spec_l6New.E spec_l6New.T spec_l6New.C spec_l6New.P spec_l6New.R spec_l6New.X g
theorem spec_l6New.l6_eq (out : List ByteArray) (t7 : List (Int × ByteArray)) (t8 : Int) (t9 : Int) : spec_l6New.l6 out t7 t8 t9 =
  (bif (decide (t9 < t8)) then (bif ((decide (0 ≤ t9)) && (decide (t9 < (t7.length : Int)))) then (bif (!(decide ((t7.getD (t9).toNat (0, em)).1 = 2))) then (bif (decide ((out.length + [(t7.getD (t9).toNat (0, em)).2].length) ≤ room 16)) then (spec_l6New.l6 (out ++ [(t7.getD (t9).toNat (0, em)).2]) t7 t8 (w64 (t9 + 1))) else none) else
    (spec_l6New.l6 out t7 t8 (w64 (t9 + 1)))) else none) else (some out)) :=
  (fixP_eq spec_l6New.E spec_l6New.T spec_l6New.C spec_l6New.K 6 spec_l6New.D6 (out, t7, t8, t9)).trans (by kernel_rfl)
theorem spec_l6New.f_eq (g : Int × Int × List (Int × ByteArray)) : spec_l6New.f g =
  (spec_l6New.l6 ([] : List ByteArray) g.2.2 (g.2.2.length : Int) 0) := by kernel_rfl
noncomputable def spec_l6New.S : Abs.Sum := ⟨spec_l6New.P, spec_l6New.R, fun _ => Fn spec_l6New.E spec_l6New.T spec_l6New.C spec_l6New.P spec_l6New.R spec_l6New.X⟩
theorem spec_l6New.meets : Meets Try.prog 109 spec_l6New.S := meets_tab (S := spec_l6New.U) tabOk_all AllMeets.nil AllStill.nil follows (by kernel_rfl : Try.prog.funcs[109]? = some Try.f109) (by kernel_rfl) (by kernel_rfl) (by kernel_rfl)
noncomputable def spec_l5Lines.C : Code := Try.f174.body.getD .skip
def spec_l5Lines.P : Par := (.cons (.val (.list .str)) .nil)
noncomputable def spec_l5Lines.U : SumTab := [(159, [], spec_l1Line.S), (160, [], spec_l1Ends.S)]
noncomputable def spec_l5Lines.E : Env := mkEnv TY AR spec_l5Lines.U
def spec_l5Lines.D4 : CutD := ⟨[0, 5, 6, 7], (.cons (.val (.list .str)) (.cons (.val (.list .str)) (.cons (.val (.int .i64)) (.cons (.val (.int .i64)) .nil))))⟩
noncomputable def spec_l5Lines.T : Tab := fun k => look k [(4, spec_l5Lines.D4)]
def spec_l5Lines.R : List (Nat × Ty) := [(0, .bool)]
def spec_l5Lines.X : List ResultVar := [.tmp 2]
noncomputable def spec_l5Lines.K := fin spec_l5Lines.E ⟨spec_l5Lines.P, spec_l5Lines.R, fun _ _ => none⟩ spec_l5Lines.X spec_l5Lines.P.len 0
noncomputable def spec_l5Lines.l4 (l : List ByteArray) (t5 : List ByteArray) (t6 : Int) (t7 : Int) : Option (Bool) := fixP spec_l5Lines.E spec_l5Lines.T spec_l5Lines.C spec_l5Lines.K 4 spec_l5Lines.D4 (l, t5, t6, t7)
noncomputable def spec_l5Lines.f (l : List ByteArray) : Option (Bool) := Fn spec_l5Lines.E spec_l5Lines.T spec_l5Lines.C spec_l5Lines.P spec_l5Lines.R spec_l5Lines.X l
theorem spec_l5Lines.l4_eq (l : List ByteArray) (t5 : List ByteArray) (t6 : Int) (t7 : Int) : spec_l5Lines.l4 l t5 t6 t7 =
  (bif (decide (t7 < t6)) then (bif ((decide (0 ≤ t7)) && (decide (t7 < (t5.length : Int)))) then ((spec_l1Line.f (t5.getD (t7).toNat em)).bind fun y28 =>
    bif (!y28) then (some false) else
    (bif (decide (t7 < (w64 ((l.length : Int) - 1)))) then ((spec_l1Ends.f (t5.getD (t7).toNat em)).bind fun y29 =>
      bif (!y29) then (some false) else
      (spec_l5Lines.l4 l t5 t6 (w64 (t7 + 1)))) else
     (spec_l5Lines.l4 l t5 t6 (w64 (t7 + 1))))) else none) else (some (decide ((l.length : Int) ≤ 40)))) :=
  (fixP_eq spec_l5Lines.E spec_l5Lines.T spec_l5Lines.C spec_l5Lines.K 4 spec_l5Lines.D4 (l, t5, t6, t7)).trans (by kernel_rfl)
theorem spec_l5Lines.f_eq (l : List ByteArray) : spec_l5Lines.f l =
  (spec_l5Lines.l4 l l (l.length : Int) 0) := by kernel_rfl
noncomputable def spec_l5Lines.S : Abs.Sum := ⟨spec_l5Lines.P, spec_l5Lines.R, fun _ => Fn spec_l5Lines.E spec_l5Lines.T spec_l5Lines.C spec_l5Lines.P spec_l5Lines.R spec_l5Lines.X⟩
theorem spec_l5Lines.meets : Meets Try.prog 174 spec_l5Lines.S := meets_tab (S := spec_l5Lines.U) tabOk_all (AllMeets.cons spec_l1Line.meets (AllMeets.cons spec_l1Ends.meets AllMeets.nil)) (AllStill.cons (fun _ _ _ => rfl) (AllStill.cons (fun _ _ _ => rfl) AllStill.nil)) follows (by kernel_rfl : Try.prog.funcs[174]? = some Try.f174) (by kernel_rfl) (by kernel_rfl) (by kernel_rfl)
noncomputable def spec_l6Group.C : Code := Try.f106.body.getD .skip
def spec_l6Group.P : Par := (.cons (.val (.pair (.int .i64) (.pair (.int .i64) (.one (.list (.pair (.int .i64) (.one .str))))))) .nil)
noncomputable def spec_l6Group.U : SumTab := [(113, [], spec_l1In.S), (159, [], spec_l1Line.S), (107, [], spec_l6Old.S), (109, [], spec_l6New.S), (174, [], spec_l5Lines.S)]
noncomputable def spec_l6Group.E : Env := mkEnv TY AR spec_l6Group.U
def spec_l6Group.D6 : CutD := ⟨[1, 3, 7, 8, 9], (.cons (.box 0 (.pair (.int .i64) (.pair (.int .i64) (.one (.list (.pair (.int .i64) (.one .str))))))) (.cons (.val .bool) (.cons (.val (.list (.pair (.int .i64) (.one .str)))) (.cons (.val (.int .i64)) (.cons (.val (.int .i64)) .nil)))))⟩
def spec_l6Group.D15 : CutD := ⟨[1, 3, 5, 7, 8, 9], (.cons (.box 0 (.pair (.int .i64) (.pair (.int .i64) (.one (.list (.pair (.int .i64) (.one .str))))))) (.cons (.val .bool) (.cons (.box 9 (.pair (.int .i64) (.one .str))) (.cons (.val (.list (.pair (.int .i64) (.one .str)))) (.cons (.val (.int .i64)) (.cons (.val (.int .i64)) .nil))))))⟩
noncomputable def spec_l6Group.T : Tab := fun k => look k [(6, spec_l6Group.D6), (15, spec_l6Group.D15)]
def spec_l6Group.R : List (Nat × Ty) := [(0, .bool)]
def spec_l6Group.X : List ResultVar := [.tmp 2]
noncomputable def spec_l6Group.K := fin spec_l6Group.E ⟨spec_l6Group.P, spec_l6Group.R, fun _ _ => none⟩ spec_l6Group.X spec_l6Group.P.len 0
noncomputable def spec_l6Group.l6 (g : Int × Int × List (Int × ByteArray)) (t3 : Bool) (t7 : List (Int × ByteArray)) (t8 : Int) (t9 : Int) : Option (Bool) := fixP spec_l6Group.E spec_l6Group.T spec_l6Group.C spec_l6Group.K 6 spec_l6Group.D6 (g, t3, t7, t8, t9)
noncomputable def spec_l6Group.l15 (g : Int × Int × List (Int × ByteArray)) (t3 : Bool) (r : Int × ByteArray) (t7 : List (Int × ByteArray)) (t8 : Int) (t9 : Int) : Option (Bool) := fixP spec_l6Group.E spec_l6Group.T spec_l6Group.C spec_l6Group.K 15 spec_l6Group.D15 (g, t3, r, t7, t8, t9)
noncomputable def spec_l6Group.f (g : Int × Int × List (Int × ByteArray)) : Option (Bool) := Fn spec_l6Group.E spec_l6Group.T spec_l6Group.C spec_l6Group.P spec_l6Group.R spec_l6Group.X g
theorem spec_l6Group.l6_eq (g : Int × Int × List (Int × ByteArray)) (t3 : Bool) (t7 : List (Int × ByteArray)) (t8 : Int) (t9 : Int) : spec_l6Group.l6 g t3 t7 t8 t9 =
  (bif (decide (t9 < t8)) then (bif ((decide (0 ≤ t9)) && (decide (t9 < (t7.length : Int)))) then ((spec_l1In.f (t7.getD (t9).toNat (0, em)).1 1 3).bind fun y28 =>
    bif (!y28) then (some false) else
    ((spec_l1Line.f (t7.getD (t9).toNat (0, em)).2).bind fun y29 =>
     bif (!y29) then (some false) else
     (bif (decide (t9 > 0)) then (bif (decide ((t7.getD (t9).toNat (0, em)).1 = 2)) then (bif ((decide (0 ≤ (w64 (t9 - 1)))) && (decide ((w64 (t9 - 1)) < (g.2.2.length : Int)))) then (bif (decide ((g.2.2.getD ((w64 (t9 - 1))).toNat (0, em)).1 = 3)) then (some false) else
         (spec_l6Group.l15 g t3 (t7.getD (t9).toNat (0, em)) t7 t8 t9)) else none) else
       (spec_l6Group.l15 g t3 (t7.getD (t9).toNat (0, em)) t7 t8 t9)) else
      (spec_l6Group.l15 g t3 (t7.getD (t9).toNat (0, em)) t7 t8 t9)))) else none) else
  (bif t3 then ((spec_l1In.f g.1 0 999).bind fun y28 =>
    bif y28 then ((spec_l1In.f g.2.1 0 999).bind fun y29 =>
     bif y29 then ((spec_l6Old.f g).bind fun y30 =>
      bif (decide ((w64 (g.1 + (y30.length : Int))) ≤ 1000)) then ((spec_l6New.f g).bind fun y31 =>
       bif (decide ((w64 (g.2.1 + (y31.length : Int))) ≤ 1000)) then (bif (decide ((g.2.2.length : Int) ≤ 80)) then ((spec_l6Old.f g).bind fun y32 =>
         (spec_l5Lines.f y32).bind fun y33 =>
         bif y33 then ((spec_l6New.f g).bind fun y34 =>
          (spec_l5Lines.f y34).bind fun y35 =>
          some y35) else (some false)) else (some false)) else (some false)) else (some false)) else (some false)) else (some false)) else (some false))) :=
  (fixP_eq spec_l6Group.E spec_l6Group.T spec_l6Group.C spec_l6Group.K 6 spec_l6Group.D6 (g, t3, t7, t8, t9)).trans (by kernel_rfl)
theorem spec_l6Group.l15_eq (g : Int × Int × List (Int × ByteArray)) (t3 : Bool) (r : Int × ByteArray) (t7 : List (Int × ByteArray)) (t8 : Int) (t9 : Int) : spec_l6Group.l15 g t3 r t7 t8 t9 =
  (bif t3 then (spec_l6Group.l6 g true t7 t8 (w64 (t9 + 1))) else
  (spec_l6Group.l6 g (!(decide (r.1 = 1))) t7 t8 (w64 (t9 + 1)))) :=
  (fixP_eq spec_l6Group.E spec_l6Group.T spec_l6Group.C spec_l6Group.K 15 spec_l6Group.D15 (g, t3, r, t7, t8, t9)).trans (by kernel_rfl)
theorem spec_l6Group.f_eq (g : Int × Int × List (Int × ByteArray)) : spec_l6Group.f g =
  (spec_l6Group.l6 g false g.2.2 (g.2.2.length : Int) 0) := by kernel_rfl
noncomputable def spec_l6Group.S : Abs.Sum := ⟨spec_l6Group.P, spec_l6Group.R, fun _ => Fn spec_l6Group.E spec_l6Group.T spec_l6Group.C spec_l6Group.P spec_l6Group.R spec_l6Group.X⟩
theorem spec_l6Group.meets : Meets Try.prog 106 spec_l6Group.S := meets_tab (S := spec_l6Group.U) tabOk_all (AllMeets.cons spec_l1In.meets (AllMeets.cons spec_l1Line.meets (AllMeets.cons spec_l6Old.meets (AllMeets.cons spec_l6New.meets (AllMeets.cons spec_l5Lines.meets AllMeets.nil))))) (AllStill.cons (fun _ _ _ => rfl) (AllStill.cons (fun _ _ _ => rfl) (AllStill.cons (fun _ _ _ => rfl) (AllStill.cons (fun _ _ _ => rfl) (AllStill.cons (fun _ _ _ => rfl) AllStill.nil))))) follows (by kernel_rfl : Try.prog.funcs[106]? = some Try.f106) (by kernel_rfl) (by kernel_rfl) (by kernel_rfl)
noncomputable def spec_OldOf.C : Code := Try.f31.body.getD .skip
def spec_OldOf.P : Par := (.cons (.val (.pair (.int .i64) (.pair (.int .i64) (.one (.list (.pair (.int .i64) (.one .str))))))) .nil)
noncomputable def spec_OldOf.U : SumTab := [(106, [], spec_l6Group.S), (107, [], spec_l6Old.S)]
noncomputable def spec_OldOf.E : Env := mkEnv TY AR spec_OldOf.U
noncomputable def spec_OldOf.T : Tab := fun k => look k []
def spec_OldOf.R : List (Nat × Ty) := [(9, .list .str), (0, .bool)]
def spec_OldOf.X : List ResultVar := [.tmp 2, .tmp 3]
noncomputable def spec_OldOf.f (g : Int × Int × List (Int × ByteArray)) : Option ((List ByteArray) × Bool) := Fn spec_OldOf.E spec_OldOf.T spec_OldOf.C spec_OldOf.P spec_OldOf.R spec_OldOf.X g
theorem spec_OldOf.f_eq (g : Int × Int × List (Int × ByteArray)) : spec_OldOf.f g =
  ((spec_l6Group.f g).bind fun y28 =>
  bif (!y28) then (some (([] : List ByteArray), false)) else
  ((spec_l6Old.f g).bind fun y29 =>
   some (y29, true))) := by kernel_rfl
noncomputable def spec_OldOf.S : Abs.Sum := ⟨spec_OldOf.P, spec_OldOf.R, fun _ => Fn spec_OldOf.E spec_OldOf.T spec_OldOf.C spec_OldOf.P spec_OldOf.R spec_OldOf.X⟩
theorem spec_OldOf.meets : Meets Try.prog 31 spec_OldOf.S := meets_tab (S := spec_OldOf.U) tabOk_all (AllMeets.cons spec_l6Group.meets (AllMeets.cons spec_l6Old.meets AllMeets.nil)) (AllStill.cons (fun _ _ _ => rfl) (AllStill.cons (fun _ _ _ => rfl) AllStill.nil)) follows (by kernel_rfl : Try.prog.funcs[31]? = some Try.f31) (by kernel_rfl) (by kernel_rfl) (by kernel_rfl)
noncomputable def impl_NewOf.C : Code := Try.f32.body.getD .skip
def impl_NewOf.P : Par := (.cons (.val (.pair (.int .i64) (.pair (.int .i64) (.one (.list (.pair (.int .i64) (.one .str))))))) .nil)
noncomputable def impl_NewOf.U : SumTab := [(104, [], impl_goodGroup.S), (108, [], impl_Group_fresh.S)]
noncomputable def impl_NewOf.E : Env := mkEnv TY AR impl_NewOf.U
noncomputable def impl_NewOf.T : Tab := fun k => look k []
def impl_NewOf.R : List (Nat × Ty) := [(9, .list .str), (0, .bool)]
def impl_NewOf.X : List ResultVar := [.tmp 2, .tmp 3]
noncomputable def impl_NewOf.f (g : Int × Int × List (Int × ByteArray)) : Option ((List ByteArray) × Bool) := Fn impl_NewOf.E impl_NewOf.T impl_NewOf.C impl_NewOf.P impl_NewOf.R impl_NewOf.X g
theorem impl_NewOf.f_eq (g : Int × Int × List (Int × ByteArray)) : impl_NewOf.f g =
  ((impl_goodGroup.f g).bind fun y28 =>
  bif (!y28) then (some (([] : List ByteArray), false)) else
  ((impl_Group_fresh.f g).bind fun y29 =>
   some (y29, true))) := by kernel_rfl
noncomputable def impl_NewOf.S : Abs.Sum := ⟨impl_NewOf.P, impl_NewOf.R, fun _ => Fn impl_NewOf.E impl_NewOf.T impl_NewOf.C impl_NewOf.P impl_NewOf.R impl_NewOf.X⟩
theorem impl_NewOf.meets : Meets Try.prog 32 impl_NewOf.S := meets_tab (S := impl_NewOf.U) tabOk_all (AllMeets.cons impl_goodGroup.meets (AllMeets.cons impl_Group_fresh.meets AllMeets.nil)) (AllStill.cons (fun _ _ _ => rfl) (AllStill.cons (fun _ _ _ => rfl) AllStill.nil)) follows (by kernel_rfl : Try.prog.funcs[32]? = some Try.f32) (by kernel_rfl) (by kernel_rfl) (by kernel_rfl)
noncomputable def spec_NewOf.C : Code := Try.f33.body.getD .skip
def spec_NewOf.P : Par := (.cons (.val (.pair (.int .i64) (.pair (.int .i64) (.one (.list (.pair (.int .i64) (.one .str))))))) .nil)
noncomputable def spec_NewOf.U : SumTab := [(106, [], spec_l6Group.S), (109, [], spec_l6New.S)]
noncomputable def spec_NewOf.E : Env := mkEnv TY AR spec_NewOf.U
noncomputable def spec_NewOf.T : Tab := fun k => look k []
def spec_NewOf.R : List (Nat × Ty) := [(9, .list .str), (0, .bool)]
def spec_NewOf.X : List ResultVar := [.tmp 2, .tmp 3]
noncomputable def spec_NewOf.f (g : Int × Int × List (Int × ByteArray)) : Option ((List ByteArray) × Bool) := Fn spec_NewOf.E spec_NewOf.T spec_NewOf.C spec_NewOf.P spec_NewOf.R spec_NewOf.X g
theorem spec_NewOf.f_eq (g : Int × Int × List (Int × ByteArray)) : spec_NewOf.f g =
  ((spec_l6Group.f g).bind fun y28 =>
  bif (!y28) then (some (([] : List ByteArray), false)) else
  ((spec_l6New.f g).bind fun y29 =>
   some (y29, true))) := by kernel_rfl
noncomputable def spec_NewOf.S : Abs.Sum := ⟨spec_NewOf.P, spec_NewOf.R, fun _ => Fn spec_NewOf.E spec_NewOf.T spec_NewOf.C spec_NewOf.P spec_NewOf.R spec_NewOf.X⟩
theorem spec_NewOf.meets : Meets Try.prog 33 spec_NewOf.S := meets_tab (S := spec_NewOf.U) tabOk_all (AllMeets.cons spec_l6Group.meets (AllMeets.cons spec_l6New.meets AllMeets.nil)) (AllStill.cons (fun _ _ _ => rfl) (AllStill.cons (fun _ _ _ => rfl) AllStill.nil)) follows (by kernel_rfl : Try.prog.funcs[33]? = some Try.f33) (by kernel_rfl) (by kernel_rfl) (by kernel_rfl)
noncomputable def impl_isWidth.C : Code := Try.f110.body.getD .skip
def impl_isWidth.P : Par := (.cons (.val (.int .i64)) .nil)
noncomputable def impl_isWidth.U : SumTab := [(98, [], impl_in.S)]
noncomputable def impl_isWidth.E : Env := mkEnv TY AR impl_isWidth.U
noncomputable def impl_isWidth.T : Tab := fun k => look k []
def impl_isWidth.R : List (Nat × Ty) := [(0, .bool)]
def impl_isWidth.X : List ResultVar := [.tmp 2]
noncomputable def impl_isWidth.f (width : Int) : Option (Bool) := Fn impl_isWidth.E impl_isWidth.T impl_isWidth.C impl_isWidth.P impl_isWidth.R impl_isWidth.X width
theorem impl_isWidth.f_eq (width : Int) : impl_isWidth.f width =
  ((impl_in.f width 0 20).bind fun y28 =>
  some y28) := by kernel_rfl
noncomputable def impl_isWidth.S : Abs.Sum := ⟨impl_isWidth.P, impl_isWidth.R, fun _ => Fn impl_isWidth.E impl_isWidth.T impl_isWidth.C impl_isWidth.P impl_isWidth.R impl_isWidth.X⟩
theorem impl_isWidth.meets : Meets Try.prog 110 impl_isWidth.S := meets_tab (S := impl_isWidth.U) tabOk_all (AllMeets.cons impl_in.meets AllMeets.nil) (AllStill.cons (fun _ _ _ => rfl) AllStill.nil) follows (by kernel_rfl : Try.prog.funcs[110]? = some Try.f110) (by kernel_rfl) (by kernel_rfl) (by kernel_rfl)
noncomputable def impl_Group_hunks.C : Code := Try.f111.body.getD .skip
def impl_Group_hunks.P : Par := (.cons (.val (.pair (.int .i64) (.pair (.int .i64) (.one (.list (.pair (.int .i64) (.one .str))))))) (.cons (.val (.int .i64)) .nil))
noncomputable def impl_Group_hunks.U : SumTab := []
noncomputable def impl_Group_hunks.E : Env := mkEnv TY AR impl_Group_hunks.U
def impl_Group_hunks.D6 : CutD := ⟨[1, 5, 6, 12, 13, 14], (.cons (.val (.int .i64)) (.cons (.own 9 (.pair (.int .i64) (.pair (.int .i64) (.one (.list .str))))) (.cons (.val .bool) (.cons (.val (.list (.pair (.int .i64) (.one .str)))) (.cons (.val (.int .i64)) (.cons (.val (.int .i64)) .nil))))))⟩
def impl_Group_hunks.D21 : CutD := ⟨[1, 5, 6, 8, 12, 13, 14], (.cons (.val (.int .i64)) (.cons (.own 9 (.pair (.int .i64) (.pair (.int .i64) (.one (.list .str))))) (.cons (.val .bool) (.cons (.box 9 (.pair (.int .i64) (.one .str))) (.cons (.val (.list (.pair (.int .i64) (.one .str)))) (.cons (.val (.int .i64)) (.cons (.val (.int .i64)) .nil)))))))⟩
noncomputable def impl_Group_hunks.T : Tab := fun k => look k [(6, impl_Group_hunks.D6), (21, impl_Group_hunks.D21)]
def impl_Group_hunks.R : List (Nat × Ty) := [(9, .list (.pair (.int .i64) (.pair (.int .i64) (.one (.list .str)))))]
def impl_Group_hunks.X : List ResultVar := [.tmp 4]
noncomputable def impl_Group_hunks.K := fin impl_Group_hunks.E ⟨impl_Group_hunks.P, impl_Group_hunks.R, fun _ _ => none⟩ impl_Group_hunks.X impl_Group_hunks.P.len 0
noncomputable def impl_Group_hunks.l6 (t1 : Int) (out : List (Int × Int × List ByteArray)) (running : Bool) (t12 : List (Int × ByteArray)) (t13 : Int) (t14 : Int) : Option ((List (Int × Int × List ByteArray))) := fixP impl_Group_hunks.E impl_Group_hunks.T impl_Group_hunks.C impl_Group_hunks.K 6 impl_Group_hunks.D6 (t1, out, running, t12, t13, t14)
noncomputable def impl_Group_hunks.l21 (t1 : Int) (out : List (Int × Int × List ByteArray)) (running : Bool) (r : Int × ByteArray) (t12 : List (Int × ByteArray)) (t13 : Int) (t14 : Int) : Option ((List (Int × Int × List ByteArray))) := fixP impl_Group_hunks.E impl_Group_hunks.T impl_Group_hunks.C impl_Group_hunks.K 21 impl_Group_hunks.D21 (t1, out, running, r, t12, t13, t14)
noncomputable def impl_Group_hunks.f (g : Int × Int × List (Int × ByteArray)) (t1 : Int) : Option ((List (Int × Int × List ByteArray))) := Fn impl_Group_hunks.E impl_Group_hunks.T impl_Group_hunks.C impl_Group_hunks.P impl_Group_hunks.R impl_Group_hunks.X (g, t1)
theorem impl_Group_hunks.l6_eq (t1 : Int) (out : List (Int × Int × List ByteArray)) (running : Bool) (t12 : List (Int × ByteArray)) (t13 : Int) (t14 : Int) : impl_Group_hunks.l6 t1 out running t12 t13 t14 =
  (bif (decide (t14 < t13)) then (bif ((decide (0 ≤ t14)) && (decide (t14 < (t12.length : Int)))) then (bif (decide ((t12.getD (t14).toNat (0, em)).1 = 1)) then (impl_Group_hunks.l6 (w64 (t1 + 1)) out false t12 t13 (w64 (t14 + 1))) else
    (bif (!running) then (bif (decide ((out.length + [(t1, 0, ([] : List ByteArray))].length) ≤ room 40)) then (impl_Group_hunks.l21 t1 (out ++ [(t1, 0, ([] : List ByteArray))]) true (t12.getD (t14).toNat (0, em)) t12 t13 t14) else none) else
     (impl_Group_hunks.l21 t1 out running (t12.getD (t14).toNat (0, em)) t12 t13 t14))) else none) else (some out)) :=
  (fixP_eq impl_Group_hunks.E impl_Group_hunks.T impl_Group_hunks.C impl_Group_hunks.K 6 impl_Group_hunks.D6 (t1, out, running, t12, t13, t14)).trans (by kernel_rfl)
theorem impl_Group_hunks.l21_eq (t1 : Int) (out : List (Int × Int × List ByteArray)) (running : Bool) (r : Int × ByteArray) (t12 : List (Int × ByteArray)) (t13 : Int) (t14 : Int) : impl_Group_hunks.l21 t1 out running r t12 t13 t14 =
  (bif ((decide (0 ≤ (w64 ((out.length : Int) - 1)))) && (decide ((w64 ((out.length : Int) - 1)) < (out.length : Int)))) then (bif (decide (r.1 = 2)) then (impl_Group_hunks.l6 (w64 (t1 + 1)) (out.set ((w64 ((out.length : Int) - 1))).toNat ((out.getD ((w64 ((out.length : Int) - 1))).toNat (0, 0, ([] : List ByteArray))).1, (w64 ((out.getD ((w64 ((out.length : Int) - 1))).toNat (0, 0, ([] : List ByteArray))).2.1 + 1)), (out.getD ((w64 ((out.length : Int) - 1))).toNat (0, 0, ([] : List ByteArray))).2.2)) running t12 t13 (w64 (t14 + 1))) else
   (bif (decide (((out.getD ((w64 ((out.length : Int) - 1))).toNat (0, 0, ([] : List ByteArray))).2.2.length + [r.2].length) ≤ room 16)) then (bif (decide (((w64 ((out.length : Int) - 1))).toNat = ((w64 ((out.length : Int) - 1))).toNat)) then (impl_Group_hunks.l6 t1 (out.set ((w64 ((out.length : Int) - 1))).toNat ((out.getD ((w64 ((out.length : Int) - 1))).toNat (0, 0, ([] : List ByteArray))).1, (out.getD ((w64 ((out.length : Int) - 1))).toNat (0, 0, ([] : List ByteArray))).2.1, ((out.getD ((w64 ((out.length : Int) - 1))).toNat (0, 0, ([] : List ByteArray))).2.2 ++ [r.2]))) running t12 t13 (w64 (t14 + 1))) else none) else none)) else none) :=
  (fixP_eq impl_Group_hunks.E impl_Group_hunks.T impl_Group_hunks.C impl_Group_hunks.K 21 impl_Group_hunks.D21 (t1, out, running, r, t12, t13, t14)).trans (by kernel_rfl)
theorem impl_Group_hunks.f_eq (g : Int × Int × List (Int × ByteArray)) (t1 : Int) : impl_Group_hunks.f g t1 =
  (impl_Group_hunks.l6 t1 ([] : List (Int × Int × List ByteArray)) false g.2.2 (g.2.2.length : Int) 0) := by kernel_rfl
noncomputable def impl_Group_hunks.S : Abs.Sum := ⟨impl_Group_hunks.P, impl_Group_hunks.R, fun _ => Fn impl_Group_hunks.E impl_Group_hunks.T impl_Group_hunks.C impl_Group_hunks.P impl_Group_hunks.R impl_Group_hunks.X⟩
theorem impl_Group_hunks.meets : Meets Try.prog 111 impl_Group_hunks.S := meets_tab (S := impl_Group_hunks.U) tabOk_all AllMeets.nil AllStill.nil follows (by kernel_rfl : Try.prog.funcs[111]? = some Try.f111) (by kernel_rfl) (by kernel_rfl) (by kernel_rfl)
noncomputable def impl_groupsOf_1.C : Code := Try.f191.body.getD .skip
def impl_groupsOf_1.P : Par := (.cons (.val (.int .i64)) (.cons (.val (.list .str)) (.cons (.box 9 (.pair (.int .i64) (.pair (.int .i64) (.one (.list (.pair (.int .i64) (.one .str))))))) .nil)))
noncomputable def impl_groupsOf_1.U : SumTab := []
noncomputable def impl_groupsOf_1.E : Env := mkEnv TY AR impl_groupsOf_1.U
def impl_groupsOf_1.D2 : CutD := ⟨[0, 1, 2, 7, 8, 9], (.cons (.val (.int .i64)) (.cons (.val (.list .str)) (.cons (.box 9 (.pair (.int .i64) (.pair (.int .i64) (.one (.list (.pair (.int .i64) (.one .str))))))) (.cons (.val (.list .str)) (.cons (.val (.int .i64)) (.cons (.val (.int .i64)) .nil))))))⟩
noncomputable def impl_groupsOf_1.T : Tab := fun k => look k [(2, impl_groupsOf_1.D2)]
def impl_groupsOf_1.R : List (Nat × Ty) := []
def impl_groupsOf_1.X : List ResultVar := []
noncomputable def impl_groupsOf_1.K := fin impl_groupsOf_1.E ⟨impl_groupsOf_1.P, impl_groupsOf_1.R, fun _ _ => none⟩ impl_groupsOf_1.X impl_groupsOf_1.P.len 0
noncomputable def impl_groupsOf_1.l2 (kind : Int) (lines : List ByteArray) (t2 : Int × Int × List (Int × ByteArray)) (t7 : List ByteArray) (t8 : Int) (t9 : Int) : Option ((Int × Int × List (Int × ByteArray))) := fixP impl_groupsOf_1.E impl_groupsOf_1.T impl_groupsOf_1.C impl_groupsOf_1.K 2 impl_groupsOf_1.D2 (kind, lines, t2, t7, t8, t9)
noncomputable def impl_groupsOf_1.f (kind : Int) (lines : List ByteArray) (t2 : Int × Int × List (Int × ByteArray)) : Option ((Int × Int × List (Int × ByteArray))) := Fn impl_groupsOf_1.E impl_groupsOf_1.T impl_groupsOf_1.C impl_groupsOf_1.P impl_groupsOf_1.R impl_groupsOf_1.X (kind, lines, t2)
theorem impl_groupsOf_1.l2_eq (kind : Int) (lines : List ByteArray) (t2 : Int × Int × List (Int × ByteArray)) (t7 : List ByteArray) (t8 : Int) (t9 : Int) : impl_groupsOf_1.l2 kind lines t2 t7 t8 t9 =
  (bif (decide (t9 < t8)) then (bif ((decide (0 ≤ t9)) && (decide (t9 < (t7.length : Int)))) then (bif (decide ((t2.2.2.length + [(kind, (t7.getD (t9).toNat em))].length) ≤ room 24)) then (impl_groupsOf_1.l2 kind lines (t2.1, t2.2.1, (t2.2.2 ++ [(kind, (t7.getD (t9).toNat em))])) t7 t8 (w64 (t9 + 1))) else none) else none) else (some (t2.1, t2.2.1, t2.2.2))) :=
  (fixP_eq impl_groupsOf_1.E impl_groupsOf_1.T impl_groupsOf_1.C impl_groupsOf_1.K 2 impl_groupsOf_1.D2 (kind, lines, t2, t7, t8, t9)).trans (by kernel_rfl)
theorem impl_groupsOf_1.f_eq (kind : Int) (lines : List ByteArray) (t2 : Int × Int × List (Int × ByteArray)) : impl_groupsOf_1.f kind lines t2 =
  (impl_groupsOf_1.l2 kind lines (t2.1, t2.2.1, t2.2.2) lines (lines.length : Int) 0) := by kernel_rfl
noncomputable def impl_groupsOf_1.S : Abs.Sum := ⟨impl_groupsOf_1.P, impl_groupsOf_1.R, fun _ => Fn impl_groupsOf_1.E impl_groupsOf_1.T impl_groupsOf_1.C impl_groupsOf_1.P impl_groupsOf_1.R impl_groupsOf_1.X⟩
theorem impl_groupsOf_1.meets : Meets Try.prog 191 impl_groupsOf_1.S := meets_tab (S := impl_groupsOf_1.U) tabOk_all AllMeets.nil AllStill.nil follows (by kernel_rfl : Try.prog.funcs[191]? = some Try.f191) (by kernel_rfl) (by kernel_rfl) (by kernel_rfl)
noncomputable def impl_groupsOf.C : Code := Try.f137.body.getD .skip
def impl_groupsOf.P : Par := (.cons (.val (.list .str)) (.cons (.val (.list (.pair (.int .i64) (.pair (.int .i64) (.one (.list .str)))))) (.cons (.val (.int .i64)) .nil)))
noncomputable def impl_groupsOf.U : SumTab := [(191, [], impl_groupsOf_1.S)]
noncomputable def impl_groupsOf.E : Env := mkEnv TY AR impl_groupsOf.U
def impl_groupsOf.D6 : CutD := ⟨[0, 1, 2, 7, 8, 9], (.cons (.val (.list .str)) (.cons (.val (.list (.pair (.int .i64) (.pair (.int .i64) (.one (.list .str)))))) (.cons (.val (.int .i64)) (.cons (.own 9 (.pair (.int .i64) (.pair (.int .i64) (.one (.list (.pair (.int .i64) (.one .str))))))) (.cons (.val (.int .i64)) (.cons (.val (.int .i64)) .nil))))))⟩
def impl_groupsOf.D10 : CutD := ⟨[0, 1, 2, 7, 8, 9, 10], (.cons (.val (.list .str)) (.cons (.val (.list (.pair (.int .i64) (.pair (.int .i64) (.one (.list .str)))))) (.cons (.val (.int .i64)) (.cons (.own 9 (.pair (.int .i64) (.pair (.int .i64) (.one (.list (.pair (.int .i64) (.one .str))))))) (.cons (.val (.int .i64)) (.cons (.val (.int .i64)) (.cons (.val (.int .i64)) .nil)))))))⟩
def impl_groupsOf.D15 : CutD := ⟨[0, 1, 2, 7, 8, 9, 10], (.cons (.val (.list .str)) (.cons (.val (.list (.pair (.int .i64) (.pair (.int .i64) (.one (.list .str)))))) (.cons (.val (.int .i64)) (.cons (.own 9 (.pair (.int .i64) (.pair (.int .i64) (.one (.list (.pair (.int .i64) (.one .str))))))) (.cons (.val (.int .i64)) (.cons (.val (.int .i64)) (.cons (.val (.int .i64)) .nil)))))))⟩
def impl_groupsOf.D22 : CutD := ⟨[0, 1, 2, 7, 8, 9, 10, 11, 12, 14, 1104113], (.cons (.val (.list .str)) (.cons (.val (.list (.pair (.int .i64) (.pair (.int .i64) (.one (.list .str)))))) (.cons (.val (.int .i64)) (.cons (.own 9 (.pair (.int .i64) (.pair (.int .i64) (.one (.list (.pair (.int .i64) (.one .str))))))) (.cons (.val (.int .i64)) (.cons (.val (.int .i64)) (.cons (.val (.int .i64)) (.cons (.val (.int .i64)) (.cons (.val (.int .i64)) (.cons (.fn 191 (.cons (.box 9 (.pair (.int .i64) (.pair (.int .i64) (.one (.list (.pair (.int .i64) (.one .str))))))) .nil)) .nil))))))))))⟩
noncomputable def impl_groupsOf.T : Tab := fun k => look k [(6, impl_groupsOf.D6), (10, impl_groupsOf.D10), (15, impl_groupsOf.D15), (22, impl_groupsOf.D22)]
def impl_groupsOf.R : List (Nat × Ty) := [(9, .list (.pair (.int .i64) (.pair (.int .i64) (.one (.list (.pair (.int .i64) (.one .str)))))))]
def impl_groupsOf.X : List ResultVar := [.tmp 6]
noncomputable def impl_groupsOf.K := fin impl_groupsOf.E ⟨impl_groupsOf.P, impl_groupsOf.R, fun _ _ => none⟩ impl_groupsOf.X impl_groupsOf.P.len 0
noncomputable def impl_groupsOf.l6 (l : List ByteArray) (h : List (Int × Int × List ByteArray)) (width : Int) (out : List (Int × Int × List (Int × ByteArray))) (more : Int) (i : Int) : Option ((List (Int × Int × List (Int × ByteArray)))) := fixP impl_groupsOf.E impl_groupsOf.T impl_groupsOf.C impl_groupsOf.K 6 impl_groupsOf.D6 (l, h, width, out, more, i)
noncomputable def impl_groupsOf.l10 (l : List ByteArray) (h : List (Int × Int × List ByteArray)) (width : Int) (out : List (Int × Int × List (Int × ByteArray))) (more : Int) (i : Int) (last : Int) : Option ((List (Int × Int × List (Int × ByteArray)))) := fixP impl_groupsOf.E impl_groupsOf.T impl_groupsOf.C impl_groupsOf.K 10 impl_groupsOf.D10 (l, h, width, out, more, i, last)
noncomputable def impl_groupsOf.l15 (l : List ByteArray) (h : List (Int × Int × List ByteArray)) (width : Int) (out : List (Int × Int × List (Int × ByteArray))) (more : Int) (i : Int) (last : Int) : Option ((List (Int × Int × List (Int × ByteArray)))) := fixP impl_groupsOf.E impl_groupsOf.T impl_groupsOf.C impl_groupsOf.K 15 impl_groupsOf.D15 (l, h, width, out, more, i, last)
noncomputable def impl_groupsOf.l22 (l : List ByteArray) (h : List (Int × Int × List ByteArray)) (width : Int) (out : List (Int × Int × List (Int × ByteArray))) (more : Int) (i : Int) (last : Int) (t11 : Int) (t12 : Int) (row : Int × Int × List (Int × ByteArray)) : Option ((List (Int × Int × List (Int × ByteArray)))) := fixP impl_groupsOf.E impl_groupsOf.T impl_groupsOf.C impl_groupsOf.K 22 impl_groupsOf.D22 (l, h, width, out, more, i, last, t11, t12, row)
noncomputable def impl_groupsOf.f (l : List ByteArray) (h : List (Int × Int × List ByteArray)) (width : Int) : Option ((List (Int × Int × List (Int × ByteArray)))) := Fn impl_groupsOf.E impl_groupsOf.T impl_groupsOf.C impl_groupsOf.P impl_groupsOf.R impl_groupsOf.X (l, h, width)
theorem impl_groupsOf.l6_eq (l : List ByteArray) (h : List (Int × Int × List ByteArray)) (width : Int) (out : List (Int × Int × List (Int × ByteArray))) (more : Int) (i : Int) : impl_groupsOf.l6 l h width out more i =
  (bif (decide (i < (h.length : Int))) then (impl_groupsOf.l10 l h width out more i i) else (some out)) :=
  (fixP_eq impl_groupsOf.E impl_groupsOf.T impl_groupsOf.C impl_groupsOf.K 6 impl_groupsOf.D6 (l, h, width, out, more, i)).trans (by kernel_rfl)
theorem impl_groupsOf.l10_eq (l : List ByteArray) (h : List (Int × Int × List ByteArray)) (width : Int) (out : List (Int × Int × List (Int × ByteArray))) (more : Int) (i : Int) (last : Int) : impl_groupsOf.l10 l h width out more i last =
  (bif (decide ((w64 (last + 1)) < (h.length : Int))) then (bif ((decide (0 ≤ (w64 (last + 1)))) && (decide ((w64 (last + 1)) < (h.length : Int)))) then (bif ((decide (0 ≤ last)) && (decide (last < (h.length : Int)))) then (bif ((decide (0 ≤ last)) && (decide (last < (h.length : Int)))) then (bif (decide ((w64 ((h.getD ((w64 (last + 1))).toNat (0, 0, ([] : List ByteArray))).1 - (w64 ((h.getD (last).toNat (0, 0, ([] : List ByteArray))).1 + (h.getD (last).toNat (0, 0, ([] : List ByteArray))).2.1)))) ≤ (w64 (2 * width)))) then (impl_groupsOf.l10 l h width out more i (w64 (last + 1))) else
      (impl_groupsOf.l15 l h width out more i last)) else none) else none) else none) else
  (impl_groupsOf.l15 l h width out more i last)) :=
  (fixP_eq impl_groupsOf.E impl_groupsOf.T impl_groupsOf.C impl_groupsOf.K 10 impl_groupsOf.D10 (l, h, width, out, more, i, last)).trans (by kernel_rfl)
theorem impl_groupsOf.l15_eq (l : List ByteArray) (h : List (Int × Int × List ByteArray)) (width : Int) (out : List (Int × Int × List (Int × ByteArray))) (more : Int) (i : Int) (last : Int) : impl_groupsOf.l15 l h width out more i last =
  (bif ((decide (0 ≤ i)) && (decide (i < (h.length : Int)))) then (bif ((decide (0 ≤ last)) && (decide (last < (h.length : Int)))) then (bif ((decide (0 ≤ last)) && (decide (last < (h.length : Int)))) then (impl_groupsOf.l22 l h width out more i last (max (w64 ((h.getD (i).toNat (0, 0, ([] : List ByteArray))).1 - width)) 0) (min (w64 ((w64 ((h.getD (last).toNat (0, 0, ([] : List ByteArray))).1 + (h.getD (last).toNat (0, 0, ([] : List ByteArray))).2.1)) + width)) (l.length : Int)) ((max (w64 ((h.getD (i).toNat (0, 0, ([] : List ByteArray))).1 - width)) 0), (w64 ((max (w64 ((h.getD (i).toNat (0, 0, ([] : List ByteArray))).1 - width)) 0) + more)), ([] : List (Int × ByteArray)))) else none) else none) else none) :=
  (fixP_eq impl_groupsOf.E impl_groupsOf.T impl_groupsOf.C impl_groupsOf.K 15 impl_groupsOf.D15 (l, h, width, out, more, i, last)).trans (by kernel_rfl)
theorem impl_groupsOf.l22_eq (l : List ByteArray) (h : List (Int × Int × List ByteArray)) (width : Int) (out : List (Int × Int × List (Int × ByteArray))) (more : Int) (i : Int) (last : Int) (t11 : Int) (t12 : Int) (row : Int × Int × List (Int × ByteArray)) : impl_groupsOf.l22 l h width out more i last t11 t12 row =
  (bif (decide (i ≤ last)) then (bif ((decide (0 ≤ i)) && (decide (i < (h.length : Int)))) then (bif ((decide (0 ≤ t11)) && ((decide (t11 ≤ (h.getD (i).toNat (0, 0, ([] : List ByteArray))).1)) && (decide ((h.getD (i).toNat (0, 0, ([] : List ByteArray))).1 ≤ (l.length : Int))))) then ((impl_groupsOf_1.f 1 ((l.take ((h.getD (i).toNat (0, 0, ([] : List ByteArray))).1).toNat).drop (t11).toNat) (row.1, row.2.1, row.2.2)).bind fun y28 =>
     bif ((decide (0 ≤ (h.getD (i).toNat (0, 0, ([] : List ByteArray))).1)) && ((decide ((h.getD (i).toNat (0, 0, ([] : List ByteArray))).1 ≤ (w64 ((h.getD (i).toNat (0, 0, ([] : List ByteArray))).1 + (h.getD (i).toNat (0, 0, ([] : List ByteArray))).2.1)))) && (decide ((w64 ((h.getD (i).toNat (0, 0, ([] : List ByteArray))).1 + (h.getD (i).toNat (0, 0, ([] : List ByteArray))).2.1)) ≤ (l.length : Int))))) then ((impl_groupsOf_1.f 2 ((l.take ((w64 ((h.getD (i).toNat (0, 0, ([] : List ByteArray))).1 + (h.getD (i).toNat (0, 0, ([] : List ByteArray))).2.1))).toNat).drop ((h.getD (i).toNat (0, 0, ([] : List ByteArray))).1).toNat) (y28.1, y28.2.1, y28.2.2)).bind fun y29 =>
      (impl_groupsOf_1.f 3 (h.getD (i).toNat (0, 0, ([] : List ByteArray))).2.2 (y29.1, y29.2.1, y29.2.2)).bind fun y30 =>
      impl_groupsOf.l22 l h width out (w64 (more + (w64 (((h.getD (i).toNat (0, 0, ([] : List ByteArray))).2.2.length : Int) - (h.getD (i).toNat (0, 0, ([] : List ByteArray))).2.1)))) (w64 (i + 1)) last (w64 ((h.getD (i).toNat (0, 0, ([] : List ByteArray))).1 + (h.getD (i).toNat (0, 0, ([] : List ByteArray))).2.1)) t12 (y30.1, y30.2.1, y30.2.2)) else none) else none) else none) else
  (bif ((decide (0 ≤ t11)) && ((decide (t11 ≤ t12)) && (decide (t12 ≤ (l.length : Int))))) then ((impl_groupsOf_1.f 1 ((l.take (t12).toNat).drop (t11).toNat) (row.1, row.2.1, row.2.2)).bind fun y28 =>
    bif (decide ((out.length + [(y28.1, y28.2.1, y28.2.2)].length) ≤ room 40)) then (impl_groupsOf.l6 l h width (out ++ [(y28.1, y28.2.1, y28.2.2)]) more i) else none) else none)) :=
  (fixP_eq impl_groupsOf.E impl_groupsOf.T impl_groupsOf.C impl_groupsOf.K 22 impl_groupsOf.D22 (l, h, width, out, more, i, last, t11, t12, row)).trans (by kernel_rfl)
theorem impl_groupsOf.f_eq (l : List ByteArray) (h : List (Int × Int × List ByteArray)) (width : Int) : impl_groupsOf.f l h width =
  (impl_groupsOf.l6 l h width ([] : List (Int × Int × List (Int × ByteArray))) 0 0) := by kernel_rfl
noncomputable def impl_groupsOf.S : Abs.Sum := ⟨impl_groupsOf.P, impl_groupsOf.R, fun _ => Fn impl_groupsOf.E impl_groupsOf.T impl_groupsOf.C impl_groupsOf.P impl_groupsOf.R impl_groupsOf.X⟩
theorem impl_groupsOf.meets : Meets Try.prog 137 impl_groupsOf.S := meets_tab (S := impl_groupsOf.U) tabOk_all (AllMeets.cons impl_groupsOf_1.meets AllMeets.nil) (AllStill.cons (fun _ _ _ => rfl) AllStill.nil) follows (by kernel_rfl : Try.prog.funcs[137]? = some Try.f137) (by kernel_rfl) (by kernel_rfl) (by kernel_rfl)
noncomputable def impl_GroupsOf.C : Code := Try.f61.body.getD .skip
def impl_GroupsOf.P : Par := (.cons (.val (.list .str)) (.cons (.val (.list (.pair (.int .i64) (.pair (.int .i64) (.one (.list .str)))))) (.cons (.val (.int .i64)) .nil)))
noncomputable def impl_GroupsOf.U : SumTab := [(136, [], impl_Patch.S), (110, [], impl_isWidth.S), (137, [], impl_groupsOf.S)]
noncomputable def impl_GroupsOf.E : Env := mkEnv TY AR impl_GroupsOf.U
noncomputable def impl_GroupsOf.T : Tab := fun k => look k []
def impl_GroupsOf.R : List (Nat × Ty) := [(9, .list (.pair (.int .i64) (.pair (.int .i64) (.one (.list (.pair (.int .i64) (.one .str))))))), (0, .bool)]
def impl_GroupsOf.X : List ResultVar := [.tmp 6, .tmp 7]
noncomputable def impl_GroupsOf.f (l : List ByteArray) (h : List (Int × Int × List ByteArray)) (width : Int) : Option ((List (Int × Int × List (Int × ByteArray))) × Bool) := Fn impl_GroupsOf.E impl_GroupsOf.T impl_GroupsOf.C impl_GroupsOf.P impl_GroupsOf.R impl_GroupsOf.X (l, h, width)
theorem impl_GroupsOf.f_eq (l : List ByteArray) (h : List (Int × Int × List ByteArray)) (width : Int) : impl_GroupsOf.f l h width =
  ((impl_Patch.f l h).bind fun y28 =>
  bif (!y28.2) then (some (([] : List (Int × Int × List (Int × ByteArray))), false)) else
  ((impl_isWidth.f width).bind fun y29 =>
   bif (!y29) then (some (([] : List (Int × Int × List (Int × ByteArray))), false)) else
   ((impl_groupsOf.f l h width).bind fun y30 =>
    some (y30, true)))) := by kernel_rfl
noncomputable def impl_GroupsOf.S : Abs.Sum := ⟨impl_GroupsOf.P, impl_GroupsOf.R, fun _ => Fn impl_GroupsOf.E impl_GroupsOf.T impl_GroupsOf.C impl_GroupsOf.P impl_GroupsOf.R impl_GroupsOf.X⟩
theorem impl_GroupsOf.meets : Meets Try.prog 61 impl_GroupsOf.S := meets_tab (S := impl_GroupsOf.U) tabOk_all (AllMeets.cons impl_Patch.meets (AllMeets.cons impl_isWidth.meets (AllMeets.cons impl_groupsOf.meets AllMeets.nil))) (AllStill.cons (fun _ _ _ => rfl) (AllStill.cons (fun _ _ _ => rfl) (AllStill.cons (fun _ _ _ => rfl) AllStill.nil))) follows (by kernel_rfl : Try.prog.funcs[61]? = some Try.f61) (by kernel_rfl) (by kernel_rfl) (by kernel_rfl)
noncomputable def impl_SplitGroup.C : Code := Try.f35.body.getD .skip
def impl_SplitGroup.P : Par := (.cons (.val (.pair (.int .i64) (.pair (.int .i64) (.one (.list (.pair (.int .i64) (.one .str))))))) (.cons (.val (.int .i64)) .nil))
noncomputable def impl_SplitGroup.U : SumTab := [(104, [], impl_goodGroup.S), (110, [], impl_isWidth.S), (105, [], impl_Group_old.S), (111, [], impl_Group_hunks.S), (61, [], impl_GroupsOf.S)]
noncomputable def impl_SplitGroup.E : Env := mkEnv TY AR impl_SplitGroup.U
def impl_SplitGroup.D7 : CutD := ⟨[1, 2], (.cons (.val (.int .i64)) (.cons (.box 0 (.pair (.int .i64) (.pair (.int .i64) (.one (.list (.pair (.int .i64) (.one .str))))))) .nil))⟩
def impl_SplitGroup.D10 : CutD := ⟨[2, 6, 7, 27, 28], (.cons (.box 0 (.pair (.int .i64) (.pair (.int .i64) (.one (.list (.pair (.int .i64) (.one .str))))))) (.cons (.own 8 (.pair (.int .i64) (.pair (.int .i64) (.one (.list (.pair (.int .i64) (.one .str))))))) (.cons (.val .bool) (.cons (.val (.int .i64)) (.cons (.val (.int .i64)) .nil)))))⟩
noncomputable def impl_SplitGroup.T : Tab := fun k => look k [(7, impl_SplitGroup.D7), (10, impl_SplitGroup.D10)]
def impl_SplitGroup.R : List (Nat × Ty) := [(9, .list (.pair (.int .i64) (.pair (.int .i64) (.one (.list (.pair (.int .i64) (.one .str))))))), (0, .bool)]
def impl_SplitGroup.X : List ResultVar := [.tmp 4, .tmp 5]
noncomputable def impl_SplitGroup.K := fin impl_SplitGroup.E ⟨impl_SplitGroup.P, impl_SplitGroup.R, fun _ _ => none⟩ impl_SplitGroup.X impl_SplitGroup.P.len 0
noncomputable def impl_SplitGroup.l7 (width : Int) (g : Int × Int × List (Int × ByteArray)) : Option ((List (Int × Int × List (Int × ByteArray))) × Bool) := fixP impl_SplitGroup.E impl_SplitGroup.T impl_SplitGroup.C impl_SplitGroup.K 7 impl_SplitGroup.D7 (width, g)
noncomputable def impl_SplitGroup.l10 (g : Int × Int × List (Int × ByteArray)) (out : List (Int × Int × List (Int × ByteArray))) (ok : Bool) (t27 : Int) (t28 : Int) : Option ((List (Int × Int × List (Int × ByteArray))) × Bool) := fixP impl_SplitGroup.E impl_SplitGroup.T impl_SplitGroup.C impl_SplitGroup.K 10 impl_SplitGroup.D10 (g, out, ok, t27, t28)
noncomputable def impl_SplitGroup.f (g : Int × Int × List (Int × ByteArray)) (width : Int) : Option ((List (Int × Int × List (Int × ByteArray))) × Bool) := Fn impl_SplitGroup.E impl_SplitGroup.T impl_SplitGroup.C impl_SplitGroup.P impl_SplitGroup.R impl_SplitGroup.X (g, width)
theorem impl_SplitGroup.l7_eq (width : Int) (g : Int × Int × List (Int × ByteArray)) : impl_SplitGroup.l7 width g =
  ((impl_Group_old.f g).bind fun y28 =>
  (impl_Group_hunks.f g 0).bind fun y29 =>
  (impl_GroupsOf.f y28 y29 width).bind fun y30 =>
  impl_SplitGroup.l10 g y30.1 y30.2 (y30.1.length : Int) 0) :=
  (fixP_eq impl_SplitGroup.E impl_SplitGroup.T impl_SplitGroup.C impl_SplitGroup.K 7 impl_SplitGroup.D7 (width, g)).trans (by kernel_rfl)
theorem impl_SplitGroup.l10_eq (g : Int × Int × List (Int × ByteArray)) (out : List (Int × Int × List (Int × ByteArray))) (ok : Bool) (t27 : Int) (t28 : Int) : impl_SplitGroup.l10 g out ok t27 t28 =
  (bif (decide (t28 < t27)) then (bif ((decide (0 ≤ t28)) && (decide (t28 < (out.length : Int)))) then (bif ((decide (0 ≤ t28)) && (decide (t28 < (out.length : Int)))) then (bif ((decide (0 ≤ t28)) && (decide (t28 < ((out.set (t28).toNat ((w64 ((out.getD (t28).toNat (0, 0, ([] : List (Int × ByteArray)))).1 + g.1)), (out.getD (t28).toNat (0, 0, ([] : List (Int × ByteArray)))).2)).length : Int)))) then (bif ((decide (0 ≤ t28)) && (decide (t28 < ((out.set (t28).toNat ((w64 ((out.getD (t28).toNat (0, 0, ([] : List (Int × ByteArray)))).1 + g.1)), (out.getD (t28).toNat (0, 0, ([] : List (Int × ByteArray)))).2)).length : Int)))) then (impl_SplitGroup.l10 g ((out.set (t28).toNat ((w64 ((out.getD (t28).toNat (0, 0, ([] : List (Int × ByteArray)))).1 + g.1)), (out.getD (t28).toNat (0, 0, ([] : List (Int × ByteArray)))).2)).set (t28).toNat (((out.set (t28).toNat ((w64 ((out.getD (t28).toNat (0, 0, ([] : List (Int × ByteArray)))).1 + g.1)), (out.getD (t28).toNat (0, 0, ([] : List (Int × ByteArray)))).2)).getD (t28).toNat (0, 0, ([] : List (Int × ByteArray)))).1, (w64 (((out.set (t28).toNat ((w64 ((out.getD (t28).toNat (0, 0, ([] : List (Int × ByteArray)))).1 + g.1)), (out.getD (t28).toNat (0, 0, ([] : List (Int × ByteArray)))).2)).getD (t28).toNat (0, 0, ([] : List (Int × ByteArray)))).2.1 + g.2.1)), ((out.set (t28).toNat ((w64 ((out.getD (t28).toNat (0, 0, ([] : List (Int × ByteArray)))).1 + g.1)), (out.getD (t28).toNat (0, 0, ([] : List (Int × ByteArray)))).2)).getD (t28).toNat (0, 0, ([] : List (Int × ByteArray)))).2.2)) ok t27 (w64 (t28 + 1))) else none) else none) else none) else none) else (some (out, ok))) :=
  (fixP_eq impl_SplitGroup.E impl_SplitGroup.T impl_SplitGroup.C impl_SplitGroup.K 10 impl_SplitGroup.D10 (g, out, ok, t27, t28)).trans (by kernel_rfl)
theorem impl_SplitGroup.f_eq (g : Int × Int × List (Int × ByteArray)) (width : Int) : impl_SplitGroup.f g width =
  ((impl_goodGroup.f g).bind fun y28 =>
  bif (!y28) then (some (([] : List (Int × Int × List (Int × ByteArray))), false)) else
  ((impl_isWidth.f width).bind fun y29 =>
   bif (!y29) then (some (([] : List (Int × Int × List (Int × ByteArray))), false)) else
   (impl_SplitGroup.l7 width g))) := by kernel_rfl
noncomputable def impl_SplitGroup.S : Abs.Sum := ⟨impl_SplitGroup.P, impl_SplitGroup.R, fun _ => Fn impl_SplitGroup.E impl_SplitGroup.T impl_SplitGroup.C impl_SplitGroup.P impl_SplitGroup.R impl_SplitGroup.X⟩
theorem impl_SplitGroup.meets : Meets Try.prog 35 impl_SplitGroup.S := meets_tab (S := impl_SplitGroup.U) tabOk_all (AllMeets.cons impl_goodGroup.meets (AllMeets.cons impl_isWidth.meets (AllMeets.cons impl_Group_old.meets (AllMeets.cons impl_Group_hunks.meets (AllMeets.cons impl_GroupsOf.meets AllMeets.nil))))) (AllStill.cons (fun _ _ _ => rfl) (AllStill.cons (fun _ _ _ => rfl) (AllStill.cons (fun _ _ _ => rfl) (AllStill.cons (fun _ _ _ => rfl) (AllStill.cons (fun _ _ _ => rfl) AllStill.nil))))) follows (by kernel_rfl : Try.prog.funcs[35]? = some Try.f35) (by kernel_rfl) (by kernel_rfl) (by kernel_rfl)
noncomputable def spec_DrawSplitGroup.C : Code := Try.f36.body.getD .skip
def spec_DrawSplitGroup.P : Par := (.cons (.val (.list (.int .u8))) .nil)
noncomputable def spec_DrawSplitGroup.U : SumTab := [(29, [], spec_DrawOldOf.S), (112, [], spec_l1Cur_among.S)]
noncomputable def spec_DrawSplitGroup.E : Env := mkEnv TY AR spec_DrawSplitGroup.U
noncomputable def spec_DrawSplitGroup.T : Tab := fun k => look k []
def spec_DrawSplitGroup.R : List (Nat × Ty) := [(0, .pair (.int .i64) (.pair (.int .i64) (.one (.list (.pair (.int .i64) (.one .str)))))), (0, .int .i64)]
def spec_DrawSplitGroup.X : List ResultVar := [.cell 2 53, .tmp 3]
noncomputable def spec_DrawSplitGroup.f (code : List Int) : Option ((Int × Int × List (Int × ByteArray)) × Int) := Fn spec_DrawSplitGroup.E spec_DrawSplitGroup.T spec_DrawSplitGroup.C spec_DrawSplitGroup.P spec_DrawSplitGroup.R spec_DrawSplitGroup.X code
theorem spec_DrawSplitGroup.f_eq (code : List Int) : spec_DrawSplitGroup.f code =
  ((spec_DrawOldOf.f code).bind fun y34 =>
  (spec_l1Cur_among.f (code, 0, 0) [0, 0, 1, 2, 20, 21, (-1)]).bind fun y35 =>
  some (y34, y35.1)) := by kernel_rfl
noncomputable def spec_DrawSplitGroup.S : Abs.Sum := ⟨spec_DrawSplitGroup.P, spec_DrawSplitGroup.R, fun _ => Fn spec_DrawSplitGroup.E spec_DrawSplitGroup.T spec_DrawSplitGroup.C spec_DrawSplitGroup.P spec_DrawSplitGroup.R spec_DrawSplitGroup.X⟩
theorem spec_DrawSplitGroup.meets : Meets Try.prog 36 spec_DrawSplitGroup.S := meets_tab (S := spec_DrawSplitGroup.U) tabOk_all (AllMeets.cons spec_DrawOldOf.meets (AllMeets.cons spec_l1Cur_among.meets AllMeets.nil)) (AllStill.cons (fun _ _ _ => rfl) (AllStill.cons (fun _ _ _ => rfl) AllStill.nil)) follows (by kernel_rfl : Try.prog.funcs[36]? = some Try.f36) (by kernel_rfl) (by kernel_rfl) (by kernel_rfl)
noncomputable def spec_l6Hunks.C : Code := Try.f115.body.getD .skip
def spec_l6Hunks.P : Par := (.cons (.val (.pair (.int .i64) (.pair (.int .i64) (.one (.list (.pair (.int .i64) (.one .str))))))) .nil)
noncomputable def spec_l6Hunks.U : SumTab := []
noncomputable def spec_l6Hunks.E : Env := mkEnv TY AR spec_l6Hunks.U
def spec_l6Hunks.D10 : CutD := ⟨[3, 4, 5, 12, 13, 14], (.cons (.own 9 (.pair (.int .i64) (.pair (.int .i64) (.one (.list .str))))) (.cons (.val (.int .i64)) (.cons (.val .bool) (.cons (.val (.list (.pair (.int .i64) (.one .str)))) (.cons (.val (.int .i64)) (.cons (.val (.int .i64)) .nil))))))⟩
def spec_l6Hunks.D27 : CutD := ⟨[3, 4, 5, 7, 12, 13, 14], (.cons (.own 9 (.pair (.int .i64) (.pair (.int .i64) (.one (.list .str))))) (.cons (.val (.int .i64)) (.cons (.val .bool) (.cons (.box 9 (.pair (.int .i64) (.one .str))) (.cons (.val (.list (.pair (.int .i64) (.one .str)))) (.cons (.val (.int .i64)) (.cons (.val (.int .i64)) .nil)))))))⟩
noncomputable def spec_l6Hunks.T : Tab := fun k => look k [(10, spec_l6Hunks.D10), (27, spec_l6Hunks.D27)]
def spec_l6Hunks.R : List (Nat × Ty) := [(9, .list (.pair (.int .i64) (.pair (.int .i64) (.one (.list .str)))))]
def spec_l6Hunks.X : List ResultVar := [.tmp 2]
noncomputable def spec_l6Hunks.K := fin spec_l6Hunks.E ⟨spec_l6Hunks.P, spec_l6Hunks.R, fun _ _ => none⟩ spec_l6Hunks.X spec_l6Hunks.P.len 0
noncomputable def spec_l6Hunks.l10 (out : List (Int × Int × List ByteArray)) (t4 : Int) (t5 : Bool) (t12 : List (Int × ByteArray)) (t13 : Int) (t14 : Int) : Option ((List (Int × Int × List ByteArray))) := fixP spec_l6Hunks.E spec_l6Hunks.T spec_l6Hunks.C spec_l6Hunks.K 10 spec_l6Hunks.D10 (out, t4, t5, t12, t13, t14)
noncomputable def spec_l6Hunks.l27 (out : List (Int × Int × List ByteArray)) (t4 : Int) (t5 : Bool) (r : Int × ByteArray) (t12 : List (Int × ByteArray)) (t13 : Int) (t14 : Int) : Option ((List (Int × Int × List ByteArray))) := fixP spec_l6Hunks.E spec_l6Hunks.T spec_l6Hunks.C spec_l6Hunks.K 27 spec_l6Hunks.D27 (out, t4, t5, r, t12, t13, t14)
noncomputable def spec_l6Hunks.f (g : Int × Int × List (Int × ByteArray)) : Option ((List (Int × Int × List ByteArray))) := Fn spec_l6Hunks.E spec_l6Hunks.T spec_l6Hunks.C spec_l6Hunks.P spec_l6Hunks.R spec_l6Hunks.X g
theorem spec_l6Hunks.l10_eq (out : List (Int × Int × List ByteArray)) (t4 : Int) (t5 : Bool) (t12 : List (Int × ByteArray)) (t13 : Int) (t14 : Int) : spec_l6Hunks.l10 out t4 t5 t12 t13 t14 =
  (bif (decide (t14 < t13)) then (bif ((decide (0 ≤ t14)) && (decide (t14 < (t12.length : Int)))) then (bif (decide ((t12.getD (t14).toNat (0, em)).1 = 1)) then (spec_l6Hunks.l10 out (w64 (t4 + 1)) false t12 t13 (w64 (t14 + 1))) else
    (bif (!t5) then (bif (decide ((out.length + [(t4, 0, ([] : List ByteArray))].length) ≤ room 40)) then (spec_l6Hunks.l27 (out ++ [(t4, 0, ([] : List ByteArray))]) t4 true (t12.getD (t14).toNat (0, em)) t12 t13 t14) else none) else
     (spec_l6Hunks.l27 out t4 t5 (t12.getD (t14).toNat (0, em)) t12 t13 t14))) else none) else (some out)) :=
  (fixP_eq spec_l6Hunks.E spec_l6Hunks.T spec_l6Hunks.C spec_l6Hunks.K 10 spec_l6Hunks.D10 (out, t4, t5, t12, t13, t14)).trans (by kernel_rfl)
theorem spec_l6Hunks.l27_eq (out : List (Int × Int × List ByteArray)) (t4 : Int) (t5 : Bool) (r : Int × ByteArray) (t12 : List (Int × ByteArray)) (t13 : Int) (t14 : Int) : spec_l6Hunks.l27 out t4 t5 r t12 t13 t14 =
  (bif ((decide (0 ≤ (w64 ((out.length : Int) - 1)))) && (decide ((w64 ((out.length : Int) - 1)) < (out.length : Int)))) then (bif (decide (r.1 = 2)) then (spec_l6Hunks.l10 (out.set ((w64 ((out.length : Int) - 1))).toNat ((out.getD ((w64 ((out.length : Int) - 1))).toNat (0, 0, ([] : List ByteArray))).1, (w64 ((out.getD ((w64 ((out.length : Int) - 1))).toNat (0, 0, ([] : List ByteArray))).2.1 + 1)), (out.getD ((w64 ((out.length : Int) - 1))).toNat (0, 0, ([] : List ByteArray))).2.2)) (w64 (t4 + 1)) t5 t12 t13 (w64 (t14 + 1))) else
   (bif (decide (((out.getD ((w64 ((out.length : Int) - 1))).toNat (0, 0, ([] : List ByteArray))).2.2.length + [r.2].length) ≤ room 16)) then (bif (decide (((w64 ((out.length : Int) - 1))).toNat = ((w64 ((out.length : Int) - 1))).toNat)) then (spec_l6Hunks.l10 (out.set ((w64 ((out.length : Int) - 1))).toNat ((out.getD ((w64 ((out.length : Int) - 1))).toNat (0, 0, ([] : List ByteArray))).1, (out.getD ((w64 ((out.length : Int) - 1))).toNat (0, 0, ([] : List ByteArray))).2.1, ((out.getD ((w64 ((out.length : Int) - 1))).toNat (0, 0, ([] : List ByteArray))).2.2 ++ [r.2]))) t4 t5 t12 t13 (w64 (t14 + 1))) else none) else none)) else none) :=
  (fixP_eq spec_l6Hunks.E spec_l6Hunks.T spec_l6Hunks.C spec_l6Hunks.K 27 spec_l6Hunks.D27 (out, t4, t5, r, t12, t13, t14)).trans (by kernel_rfl)
theorem spec_l6Hunks.f_eq (g : Int × Int × List (Int × ByteArray)) : spec_l6Hunks.f g =
  (spec_l6Hunks.l10 ([] : List (Int × Int × List ByteArray)) g.1 false g.2.2 (g.2.2.length : Int) 0) := by kernel_rfl
noncomputable def spec_l6Hunks.S : Abs.Sum := ⟨spec_l6Hunks.P, spec_l6Hunks.R, fun _ => Fn spec_l6Hunks.E spec_l6Hunks.T spec_l6Hunks.C spec_l6Hunks.P spec_l6Hunks.R spec_l6Hunks.X⟩
theorem spec_l6Hunks.meets : Meets Try.prog 115 spec_l6Hunks.S := meets_tab (S := spec_l6Hunks.U) tabOk_all AllMeets.nil AllStill.nil follows (by kernel_rfl : Try.prog.funcs[115]? = some Try.f115) (by kernel_rfl) (by kernel_rfl) (by kernel_rfl)
noncomputable def spec_SplitGroup.C : Code := Try.f37.body.getD .skip
def spec_SplitGroup.P : Par := (.cons (.val (.pair (.int .i64) (.pair (.int .i64) (.one (.list (.pair (.int .i64) (.one .str))))))) (.cons (.val (.int .i64)) .nil))
noncomputable def spec_SplitGroup.U : SumTab := [(106, [], spec_l6Group.S), (113, [], spec_l1In.S), (107, [], spec_l6Old.S), (115, [], spec_l6Hunks.S), (114, [], spec_l6Groups.S)]
noncomputable def spec_SplitGroup.E : Env := mkEnv TY AR spec_SplitGroup.U
def spec_SplitGroup.D7 : CutD := ⟨[1, 2], (.cons (.val (.int .i64)) (.cons (.box 0 (.pair (.int .i64) (.pair (.int .i64) (.one (.list (.pair (.int .i64) (.one .str))))))) .nil))⟩
def spec_SplitGroup.D12 : CutD := ⟨[2, 7, 27, 28], (.cons (.box 0 (.pair (.int .i64) (.pair (.int .i64) (.one (.list (.pair (.int .i64) (.one .str))))))) (.cons (.own 8 (.pair (.int .i64) (.pair (.int .i64) (.one (.list (.pair (.int .i64) (.one .str))))))) (.cons (.val (.int .i64)) (.cons (.val (.int .i64)) .nil))))⟩
noncomputable def spec_SplitGroup.T : Tab := fun k => look k [(7, spec_SplitGroup.D7), (12, spec_SplitGroup.D12)]
def spec_SplitGroup.R : List (Nat × Ty) := [(9, .list (.pair (.int .i64) (.pair (.int .i64) (.one (.list (.pair (.int .i64) (.one .str))))))), (0, .bool)]
def spec_SplitGroup.X : List ResultVar := [.tmp 4, .tmp 5]
noncomputable def spec_SplitGroup.K := fin spec_SplitGroup.E ⟨spec_SplitGroup.P, spec_SplitGroup.R, fun _ _ => none⟩ spec_SplitGroup.X spec_SplitGroup.P.len 0
noncomputable def spec_SplitGroup.l7 (width : Int) (g : Int × Int × List (Int × ByteArray)) : Option ((List (Int × Int × List (Int × ByteArray))) × Bool) := fixP spec_SplitGroup.E spec_SplitGroup.T spec_SplitGroup.C spec_SplitGroup.K 7 spec_SplitGroup.D7 (width, g)
noncomputable def spec_SplitGroup.l12 (g : Int × Int × List (Int × ByteArray)) (out : List (Int × Int × List (Int × ByteArray))) (t27 : Int) (t28 : Int) : Option ((List (Int × Int × List (Int × ByteArray))) × Bool) := fixP spec_SplitGroup.E spec_SplitGroup.T spec_SplitGroup.C spec_SplitGroup.K 12 spec_SplitGroup.D12 (g, out, t27, t28)
noncomputable def spec_SplitGroup.f (g : Int × Int × List (Int × ByteArray)) (width : Int) : Option ((List (Int × Int × List (Int × ByteArray))) × Bool) := Fn spec_SplitGroup.E spec_SplitGroup.T spec_SplitGroup.C spec_SplitGroup.P spec_SplitGroup.R spec_SplitGroup.X (g, width)
theorem spec_SplitGroup.l7_eq (width : Int) (g : Int × Int × List (Int × ByteArray)) : spec_SplitGroup.l7 width g =
  ((spec_l6Old.f g).bind fun y34 =>
  (spec_l6Hunks.f (0, 0, g.2.2)).bind fun y35 =>
  (spec_l6Groups.f y34 y35 width).bind fun y36 =>
  spec_SplitGroup.l12 g y36 (y36.length : Int) 0) :=
  (fixP_eq spec_SplitGroup.E spec_SplitGroup.T spec_SplitGroup.C spec_SplitGroup.K 7 spec_SplitGroup.D7 (width, g)).trans (by kernel_rfl)
theorem spec_SplitGroup.l12_eq (g : Int × Int × List (Int × ByteArray)) (out : List (Int × Int × List (Int × ByteArray))) (t27 : Int) (t28 : Int) : spec_SplitGroup.l12 g out t27 t28 =
  (bif (decide (t28 < t27)) then (bif ((decide (0 ≤ t28)) && (decide (t28 < (out.length : Int)))) then (bif ((decide (0 ≤ t28)) && (decide (t28 < (out.length : Int)))) then (bif ((decide (0 ≤ t28)) && (decide (t28 < ((out.set (t28).toNat ((w64 ((out.getD (t28).toNat (0, 0, ([] : List (Int × ByteArray)))).1 + g.1)), (out.getD (t28).toNat (0, 0, ([] : List (Int × ByteArray)))).2)).length : Int)))) then (bif ((decide (0 ≤ t28)) && (decide (t28 < ((out.set (t28).toNat ((w64 ((out.getD (t28).toNat (0, 0, ([] : List (Int × ByteArray)))).1 + g.1)), (out.getD (t28).toNat (0, 0, ([] : List (Int × ByteArray)))).2)).length : Int)))) then (spec_SplitGroup.l12 g ((out.set (t28).toNat ((w64 ((out.getD (t28).toNat (0, 0, ([] : List (Int × ByteArray)))).1 + g.1)), (out.getD (t28).toNat (0, 0, ([] : List (Int × ByteArray)))).2)).set (t28).toNat (((out.set (t28).toNat ((w64 ((out.getD (t28).toNat (0, 0, ([] : List (Int × ByteArray)))).1 + g.1)), (out.getD (t28).toNat (0, 0, ([] : List (Int × ByteArray)))).2)).getD (t28).toNat (0, 0, ([] : List (Int × ByteArray)))).1, (w64 (((out.set (t28).toNat ((w64 ((out.getD (t28).toNat (0, 0, ([] : List (Int × ByteArray)))).1 + g.1)), (out.getD (t28).toNat (0, 0, ([] : List (Int × ByteArray)))).2)).getD (t28).toNat (0, 0, ([] : List (Int × ByteArray)))).2.1 + g.2.1)), ((out.set (t28).toNat ((w64 ((out.getD (t28).toNat (0, 0, ([] : List (Int × ByteArray)))).1 + g.1)), (out.getD (t28).toNat (0, 0, ([] : List (Int × ByteArray)))).2)).getD (t28).toNat (0, 0, ([] : List (Int × ByteArray)))).2.2)) t27 (w64 (t28 + 1))) else none) else none) else none) else none) else (some (out, true))) :=
  (fixP_eq spec_SplitGroup.E spec_SplitGroup.T spec_SplitGroup.C spec_SplitGroup.K 12 spec_SplitGroup.D12 (g, out, t27, t28)).trans (by kernel_rfl)
theorem spec_SplitGroup.f_eq (g : Int × Int × List (Int × ByteArray)) (width : Int) : spec_SplitGroup.f g width =
  ((spec_l6Group.f g).bind fun y34 =>
  bif (!y34) then (some (([] : List (Int × Int × List (Int × ByteArray))), false)) else
  ((spec_l1In.f width 0 20).bind fun y35 =>
   bif (!y35) then (some (([] : List (Int × Int × List (Int × ByteArray))), false)) else
   (spec_SplitGroup.l7 width g))) := by kernel_rfl
noncomputable def spec_SplitGroup.S : Abs.Sum := ⟨spec_SplitGroup.P, spec_SplitGroup.R, fun _ => Fn spec_SplitGroup.E spec_SplitGroup.T spec_SplitGroup.C spec_SplitGroup.P spec_SplitGroup.R spec_SplitGroup.X⟩
theorem spec_SplitGroup.meets : Meets Try.prog 37 spec_SplitGroup.S := meets_tab (S := spec_SplitGroup.U) tabOk_all (AllMeets.cons spec_l6Group.meets (AllMeets.cons spec_l1In.meets (AllMeets.cons spec_l6Old.meets (AllMeets.cons spec_l6Hunks.meets (AllMeets.cons spec_l6Groups.meets AllMeets.nil))))) (AllStill.cons (fun _ _ _ => rfl) (AllStill.cons (fun _ _ _ => rfl) (AllStill.cons (fun _ _ _ => rfl) (AllStill.cons (fun _ _ _ => rfl) (AllStill.cons (fun _ _ _ => rfl) AllStill.nil))))) follows (by kernel_rfl : Try.prog.funcs[37]? = some Try.f37) (by kernel_rfl) (by kernel_rfl) (by kernel_rfl)
noncomputable def spec_DrawLoosenGroup.C : Code := Try.f38.body.getD .skip
def spec_DrawLoosenGroup.P : Par := (.cons (.val (.list (.int .u8))) .nil)
noncomputable def spec_DrawLoosenGroup.U : SumTab := [(29, [], spec_DrawOldOf.S), (116, [], spec_l1Cur_pick.S)]
noncomputable def spec_DrawLoosenGroup.E : Env := mkEnv TY AR spec_DrawLoosenGroup.U
noncomputable def spec_DrawLoosenGroup.T : Tab := fun k => look k []
def spec_DrawLoosenGroup.R : List (Nat × Ty) := [(0, .pair (.int .i64) (.pair (.int .i64) (.one (.list (.pair (.int .i64) (.one .str)))))), (0, .int .i64)]
def spec_DrawLoosenGroup.X : List ResultVar := [.cell 2 53, .tmp 3]
noncomputable def spec_DrawLoosenGroup.f (code : List Int) : Option ((Int × Int × List (Int × ByteArray)) × Int) := Fn spec_DrawLoosenGroup.E spec_DrawLoosenGroup.T spec_DrawLoosenGroup.C spec_DrawLoosenGroup.P spec_DrawLoosenGroup.R spec_DrawLoosenGroup.X code
theorem spec_DrawLoosenGroup.f_eq (code : List Int) : spec_DrawLoosenGroup.f code =
  ((spec_DrawOldOf.f code).bind fun y43 =>
  (spec_l1Cur_pick.f (code, 0, 0) 4).bind fun y44 =>
  (spec_l1Cur_pick.f y44.2 20).bind fun y45 =>
  some (y43, (w64 (y44.1 - (w64 (y45.1.tdiv 19)))))) := by kernel_rfl
noncomputable def spec_DrawLoosenGroup.S : Abs.Sum := ⟨spec_DrawLoosenGroup.P, spec_DrawLoosenGroup.R, fun _ => Fn spec_DrawLoosenGroup.E spec_DrawLoosenGroup.T spec_DrawLoosenGroup.C spec_DrawLoosenGroup.P spec_DrawLoosenGroup.R spec_DrawLoosenGroup.X⟩
theorem spec_DrawLoosenGroup.meets : Meets Try.prog 38 spec_DrawLoosenGroup.S := meets_tab (S := spec_DrawLoosenGroup.U) tabOk_all (AllMeets.cons spec_DrawOldOf.meets (AllMeets.cons spec_l1Cur_pick.meets AllMeets.nil)) (AllStill.cons (fun _ _ _ => rfl) (AllStill.cons (fun _ _ _ => rfl) AllStill.nil)) follows (by kernel_rfl : Try.prog.funcs[38]? = some Try.f38) (by kernel_rfl) (by kernel_rfl) (by kernel_rfl)
noncomputable def impl_LoosenGroup.C : Code := Try.f39.body.getD .skip
def impl_LoosenGroup.P : Par := (.cons (.val (.pair (.int .i64) (.pair (.int .i64) (.one (.list (.pair (.int .i64) (.one .str))))))) (.cons (.val (.int .i64)) .nil))
noncomputable def impl_LoosenGroup.U : SumTab := [(104, [], impl_goodGroup.S), (117, [], slices_Clone_Limpl_Row_impl_Row.S)]
noncomputable def impl_LoosenGroup.E : Env := mkEnv TY AR impl_LoosenGroup.U
def impl_LoosenGroup.D7 : CutD := ⟨[1, 2, 4], (.cons (.val (.int .i64)) (.cons (.box 0 (.pair (.int .i64) (.pair (.int .i64) (.one (.list (.pair (.int .i64) (.one .str))))))) (.cons (.box 9 (.pair (.int .i64) (.pair (.int .i64) (.one (.list (.pair (.int .i64) (.one .str))))))) .nil)))⟩
def impl_LoosenGroup.D8 : CutD := ⟨[1, 2, 4, 6, 7], (.cons (.val (.int .i64)) (.cons (.box 0 (.pair (.int .i64) (.pair (.int .i64) (.one (.list (.pair (.int .i64) (.one .str))))))) (.cons (.box 9 (.pair (.int .i64) (.pair (.int .i64) (.one (.list (.pair (.int .i64) (.one .str))))))) (.cons (.val (.int .i64)) (.cons (.val (.int .i64)) .nil)))))⟩
def impl_LoosenGroup.D12 : CutD := ⟨[1, 2, 4, 6, 7], (.cons (.val (.int .i64)) (.cons (.box 0 (.pair (.int .i64) (.pair (.int .i64) (.one (.list (.pair (.int .i64) (.one .str))))))) (.cons (.box 9 (.pair (.int .i64) (.pair (.int .i64) (.one (.list (.pair (.int .i64) (.one .str))))))) (.cons (.val (.int .i64)) (.cons (.val (.int .i64)) .nil)))))⟩
def impl_LoosenGroup.D13 : CutD := ⟨[1, 2, 4, 6, 7], (.cons (.val (.int .i64)) (.cons (.box 0 (.pair (.int .i64) (.pair (.int .i64) (.one (.list (.pair (.int .i64) (.one .str))))))) (.cons (.box 9 (.pair (.int .i64) (.pair (.int .i64) (.one (.list (.pair (.int .i64) (.one .str))))))) (.cons (.val (.int .i64)) (.cons (.val (.int .i64)) .nil)))))⟩
def impl_LoosenGroup.D17 : CutD := ⟨[2, 4, 6, 7], (.cons (.box 0 (.pair (.int .i64) (.pair (.int .i64) (.one (.list (.pair (.int .i64) (.one .str))))))) (.cons (.box 9 (.pair (.int .i64) (.pair (.int .i64) (.one (.list (.pair (.int .i64) (.one .str))))))) (.cons (.val (.int .i64)) (.cons (.val (.int .i64)) .nil))))⟩
noncomputable def impl_LoosenGroup.T : Tab := fun k => look k [(7, impl_LoosenGroup.D7), (8, impl_LoosenGroup.D8), (12, impl_LoosenGroup.D12), (13, impl_LoosenGroup.D13), (17, impl_LoosenGroup.D17)]
def impl_LoosenGroup.R : List (Nat × Ty) := [(9, .pair (.int .i64) (.pair (.int .i64) (.one (.list (.pair (.int .i64) (.one .str)))))), (0, .bool)]
def impl_LoosenGroup.X : List ResultVar := [.cell 4 53, .tmp 5]
noncomputable def impl_LoosenGroup.K := fin impl_LoosenGroup.E ⟨impl_LoosenGroup.P, impl_LoosenGroup.R, fun _ _ => none⟩ impl_LoosenGroup.X impl_LoosenGroup.P.len 0
noncomputable def impl_LoosenGroup.l7 (many : Int) (g : Int × Int × List (Int × ByteArray)) (t4 : Int × Int × List (Int × ByteArray)) : Option ((Int × Int × List (Int × ByteArray)) × Bool) := fixP impl_LoosenGroup.E impl_LoosenGroup.T impl_LoosenGroup.C impl_LoosenGroup.K 7 impl_LoosenGroup.D7 (many, g, t4)
noncomputable def impl_LoosenGroup.l8 (many : Int) (g : Int × Int × List (Int × ByteArray)) (t4 : Int × Int × List (Int × ByteArray)) (t6 : Int) (t7 : Int) : Option ((Int × Int × List (Int × ByteArray)) × Bool) := fixP impl_LoosenGroup.E impl_LoosenGroup.T impl_LoosenGroup.C impl_LoosenGroup.K 8 impl_LoosenGroup.D8 (many, g, t4, t6, t7)
noncomputable def impl_LoosenGroup.l12 (many : Int) (g : Int × Int × List (Int × ByteArray)) (t4 : Int × Int × List (Int × ByteArray)) (t6 : Int) (t7 : Int) : Option ((Int × Int × List (Int × ByteArray)) × Bool) := fixP impl_LoosenGroup.E impl_LoosenGroup.T impl_LoosenGroup.C impl_LoosenGroup.K 12 impl_LoosenGroup.D12 (many, g, t4, t6, t7)
noncomputable def impl_LoosenGroup.l13 (many : Int) (g : Int × Int × List (Int × ByteArray)) (t4 : Int × Int × List (Int × ByteArray)) (t6 : Int) (t7 : Int) : Option ((Int × Int × List (Int × ByteArray)) × Bool) := fixP impl_LoosenGroup.E impl_LoosenGroup.T impl_LoosenGroup.C impl_LoosenGroup.K 13 impl_LoosenGroup.D13 (many, g, t4, t6, t7)
noncomputable def impl_LoosenGroup.l17 (g : Int × Int × List (Int × ByteArray)) (t4 : Int × Int × List (Int × ByteArray)) (t6 : Int) (t7 : Int) : Option ((Int × Int × List (Int × ByteArray)) × Bool) := fixP impl_LoosenGroup.E impl_LoosenGroup.T impl_LoosenGroup.C impl_LoosenGroup.K 17 impl_LoosenGroup.D17 (g, t4, t6, t7)
noncomputable def impl_LoosenGroup.f (g : Int × Int × List (Int × ByteArray)) (many : Int) : Option ((Int × Int × List (Int × ByteArray)) × Bool) := Fn impl_LoosenGroup.E impl_LoosenGroup.T impl_LoosenGroup.C impl_LoosenGroup.P impl_LoosenGroup.R impl_LoosenGroup.X (g, many)
theorem impl_LoosenGroup.l7_eq (many : Int) (g : Int × Int × List (Int × ByteArray)) (t4 : Int × Int × List (Int × ByteArray)) : impl_LoosenGroup.l7 many g t4 =
  (impl_LoosenGroup.l8 many g (t4.1, t4.2.1, t4.2.2) 0 (g.2.2.length : Int)) :=
  (fixP_eq impl_LoosenGroup.E impl_LoosenGroup.T impl_LoosenGroup.C impl_LoosenGroup.K 7 impl_LoosenGroup.D7 (many, g, t4)).trans (by kernel_rfl)
theorem impl_LoosenGroup.l8_eq (many : Int) (g : Int × Int × List (Int × ByteArray)) (t4 : Int × Int × List (Int × ByteArray)) (t6 : Int) (t7 : Int) : impl_LoosenGroup.l8 many g t4 t6 t7 =
  (bif (decide (t6 < (min many t7))) then (bif ((decide (0 ≤ t6)) && (decide (t6 < (g.2.2.length : Int)))) then (bif (decide ((g.2.2.getD (t6).toNat (0, em)).1 = 1)) then (impl_LoosenGroup.l8 many g (t4.1, t4.2.1, t4.2.2) (w64 (t6 + 1)) t7) else
    (impl_LoosenGroup.l13 many g (t4.1, t4.2.1, t4.2.2) t6 t7)) else none) else
  (impl_LoosenGroup.l13 many g (t4.1, t4.2.1, t4.2.2) t6 t7)) :=
  (fixP_eq impl_LoosenGroup.E impl_LoosenGroup.T impl_LoosenGroup.C impl_LoosenGroup.K 8 impl_LoosenGroup.D8 (many, g, t4, t6, t7)).trans (by kernel_rfl)
theorem impl_LoosenGroup.l12_eq (many : Int) (g : Int × Int × List (Int × ByteArray)) (t4 : Int × Int × List (Int × ByteArray)) (t6 : Int) (t7 : Int) : impl_LoosenGroup.l12 many g t4 t6 t7 =
  (bif (decide ((w64 ((g.2.2.length : Int) - t7)) < many)) then (bif (decide (t7 > t6)) then (bif ((decide (0 ≤ (w64 (t7 - 1)))) && (decide ((w64 (t7 - 1)) < (g.2.2.length : Int)))) then (bif (decide ((g.2.2.getD ((w64 (t7 - 1))).toNat (0, em)).1 = 1)) then (impl_LoosenGroup.l12 many g (t4.1, t4.2.1, t4.2.2) t6 (w64 (t7 - 1))) else
     (impl_LoosenGroup.l17 g (t4.1, t4.2.1, t4.2.2) t6 t7)) else none) else
   (impl_LoosenGroup.l17 g (t4.1, t4.2.1, t4.2.2) t6 t7)) else
  (impl_LoosenGroup.l17 g (t4.1, t4.2.1, t4.2.2) t6 t7)) :=
  (fixP_eq impl_LoosenGroup.E impl_LoosenGroup.T impl_LoosenGroup.C impl_LoosenGroup.K 12 impl_LoosenGroup.D12 (many, g, t4, t6, t7)).trans (by kernel_rfl)
theorem impl_LoosenGroup.l13_eq (many : Int) (g : Int × Int × List (Int × ByteArray)) (t4 : Int × Int × List (Int × ByteArray)) (t6 : Int) (t7 : Int) : impl_LoosenGroup.l13 many g t4 t6 t7 =
  (impl_LoosenGroup.l12 many g (t4.1, t4.2.1, t4.2.2) t6 t7) :=
  (fixP_eq impl_LoosenGroup.E impl_LoosenGroup.T impl_LoosenGroup.C impl_LoosenGroup.K 13 impl_LoosenGroup.D13 (many, g, t4, t6, t7)).trans (by kernel_rfl)
theorem impl_LoosenGroup.l17_eq (g : Int × Int × List (Int × ByteArray)) (t4 : Int × Int × List (Int × ByteArray)) (t6 : Int) (t7 : Int) : impl_LoosenGroup.l17 g t4 t6 t7 =
  (bif ((decide (0 ≤ t6)) && ((decide (t6 ≤ t7)) && (decide (t7 ≤ (g.2.2.length : Int))))) then ((slices_Clone_Limpl_Row_impl_Row.f ((g.2.2.take (t7).toNat).drop (t6).toNat)).bind fun y43 =>
   (impl_goodGroup.f ((w64 (g.1 + t6)), (w64 (g.2.1 + t6)), y43)).bind fun y44 =>
   bif (!y44) then (some ((0, 0, ([] : List (Int × ByteArray))), false)) else (some (((w64 (g.1 + t6)), (w64 (g.2.1 + t6)), y43), true))) else none) :=
  (fixP_eq impl_LoosenGroup.E impl_LoosenGroup.T impl_LoosenGroup.C impl_LoosenGroup.K 17 impl_LoosenGroup.D17 (g, t4, t6, t7)).trans (by kernel_rfl)
theorem impl_LoosenGroup.f_eq (g : Int × Int × List (Int × ByteArray)) (many : Int) : impl_LoosenGroup.f g many =
  ((impl_goodGroup.f g).bind fun y43 =>
  bif (!y43) then (some ((0, 0, ([] : List (Int × ByteArray))), false)) else
  (bif (decide (many < 0)) then (some ((0, 0, ([] : List (Int × ByteArray))), false)) else
   (impl_LoosenGroup.l7 many g (0, 0, ([] : List (Int × ByteArray)))))) := by kernel_rfl
noncomputable def impl_LoosenGroup.S : Abs.Sum := ⟨impl_LoosenGroup.P, impl_LoosenGroup.R, fun _ => Fn impl_LoosenGroup.E impl_LoosenGroup.T impl_LoosenGroup.C impl_LoosenGroup.P impl_LoosenGroup.R impl_LoosenGroup.X⟩
theorem impl_LoosenGroup.meets : Meets Try.prog 39 impl_LoosenGroup.S := meets_tab (S := impl_LoosenGroup.U) tabOk_all (AllMeets.cons impl_goodGroup.meets (AllMeets.cons slices_Clone_Limpl_Row_impl_Row.meets AllMeets.nil)) (AllStill.cons (fun _ _ _ => rfl) (AllStill.cons (fun _ _ _ => rfl) AllStill.nil)) follows (by kernel_rfl : Try.prog.funcs[39]? = some Try.f39) (by kernel_rfl) (by kernel_rfl) (by kernel_rfl)
noncomputable def spec_LoosenGroup.C : Code := Try.f40.body.getD .skip
def spec_LoosenGroup.P : Par := (.cons (.val (.pair (.int .i64) (.pair (.int .i64) (.one (.list (.pair (.int .i64) (.one .str))))))) (.cons (.val (.int .i64)) .nil))
noncomputable def spec_LoosenGroup.U : SumTab := [(106, [], spec_l6Group.S)]
noncomputable def spec_LoosenGroup.E : Env := mkEnv TY AR spec_LoosenGroup.U
def spec_LoosenGroup.D7 : CutD := ⟨[1, 2, 4], (.cons (.val (.int .i64)) (.cons (.box 0 (.pair (.int .i64) (.pair (.int .i64) (.one (.list (.pair (.int .i64) (.one .str))))))) (.cons (.box 9 (.pair (.int .i64) (.pair (.int .i64) (.one (.list (.pair (.int .i64) (.one .str))))))) .nil)))⟩
def spec_LoosenGroup.D8 : CutD := ⟨[1, 2, 4, 6, 7], (.cons (.val (.int .i64)) (.cons (.box 0 (.pair (.int .i64) (.pair (.int .i64) (.one (.list (.pair (.int .i64) (.one .str))))))) (.cons (.box 9 (.pair (.int .i64) (.pair (.int .i64) (.one (.list (.pair (.int .i64) (.one .str))))))) (.cons (.val (.int .i64)) (.cons (.val (.int .i64)) .nil)))))⟩
def spec_LoosenGroup.D12 : CutD := ⟨[1, 2, 4, 6, 7], (.cons (.val (.int .i64)) (.cons (.box 0 (.pair (.int .i64) (.pair (.int .i64) (.one (.list (.pair (.int .i64) (.one .str))))))) (.cons (.box 9 (.pair (.int .i64) (.pair (.int .i64) (.one (.list (.pair (.int .i64) (.one .str))))))) (.cons (.val (.int .i64)) (.cons (.val (.int .i64)) .nil)))))⟩
def spec_LoosenGroup.D13 : CutD := ⟨[1, 2, 4, 6, 7], (.cons (.val (.int .i64)) (.cons (.box 0 (.pair (.int .i64) (.pair (.int .i64) (.one (.list (.pair (.int .i64) (.one .str))))))) (.cons (.box 9 (.pair (.int .i64) (.pair (.int .i64) (.one (.list (.pair (.int .i64) (.one .str))))))) (.cons (.val (.int .i64)) (.cons (.val (.int .i64)) .nil)))))⟩
def spec_LoosenGroup.D17 : CutD := ⟨[2, 4, 6, 7], (.cons (.box 0 (.pair (.int .i64) (.pair (.int .i64) (.one (.list (.pair (.int .i64) (.one .str))))))) (.cons (.box 9 (.pair (.int .i64) (.pair (.int .i64) (.one (.list (.pair (.int .i64) (.one .str))))))) (.cons (.val (.int .i64)) (.cons (.val (.int .i64)) .nil))))⟩
noncomputable def spec_LoosenGroup.T : Tab := fun k => look k [(7, spec_LoosenGroup.D7), (8, spec_LoosenGroup.D8), (12, spec_LoosenGroup.D12), (13, spec_LoosenGroup.D13), (17, spec_LoosenGroup.D17)]
def spec_LoosenGroup.R : List (Nat × Ty) := [(9, .pair (.int .i64) (.pair (.int .i64) (.one (.list (.pair (.int .i64) (.one .str)))))), (0, .bool)]
def spec_LoosenGroup.X : List ResultVar := [.cell 4 53, .tmp 5]
noncomputable def spec_LoosenGroup.K := fin spec_LoosenGroup.E ⟨spec_LoosenGroup.P, spec_LoosenGroup.R, fun _ _ => none⟩ spec_LoosenGroup.X spec_LoosenGroup.P.len 0
noncomputable def spec_LoosenGroup.l7 (many : Int) (g : Int × Int × List (Int × ByteArray)) (t4 : Int × Int × List (Int × ByteArray)) : Option ((Int × Int × List (Int × ByteArray)) × Bool) := fixP spec_LoosenGroup.E spec_LoosenGroup.T spec_LoosenGroup.C spec_LoosenGroup.K 7 spec_LoosenGroup.D7 (many, g, t4)
noncomputable def spec_LoosenGroup.l8 (many : Int) (g : Int × Int × List (Int × ByteArray)) (t4 : Int × Int × List (Int × ByteArray)) (n : Int) (m : Int) : Option ((Int × Int × List (Int × ByteArray)) × Bool) := fixP spec_LoosenGroup.E spec_LoosenGroup.T spec_LoosenGroup.C spec_LoosenGroup.K 8 spec_LoosenGroup.D8 (many, g, t4, n, m)
noncomputable def spec_LoosenGroup.l12 (many : Int) (g : Int × Int × List (Int × ByteArray)) (t4 : Int × Int × List (Int × ByteArray)) (n : Int) (m : Int) : Option ((Int × Int × List (Int × ByteArray)) × Bool) := fixP spec_LoosenGroup.E spec_LoosenGroup.T spec_LoosenGroup.C spec_LoosenGroup.K 12 spec_LoosenGroup.D12 (many, g, t4, n, m)
noncomputable def spec_LoosenGroup.l13 (many : Int) (g : Int × Int × List (Int × ByteArray)) (t4 : Int × Int × List (Int × ByteArray)) (n : Int) (m : Int) : Option ((Int × Int × List (Int × ByteArray)) × Bool) := fixP spec_LoosenGroup.E spec_LoosenGroup.T spec_LoosenGroup.C spec_LoosenGroup.K 13 spec_LoosenGroup.D13 (many, g, t4, n, m)
noncomputable def spec_LoosenGroup.l17 (g : Int × Int × List (Int × ByteArray)) (t4 : Int × Int × List (Int × ByteArray)) (n : Int) (m : Int) : Option ((Int × Int × List (Int × ByteArray)) × Bool) := fixP spec_LoosenGroup.E spec_LoosenGroup.T spec_LoosenGroup.C spec_LoosenGroup.K 17 spec_LoosenGroup.D17 (g, t4, n, m)
noncomputable def spec_LoosenGroup.f (g : Int × Int × List (Int × ByteArray)) (many : Int) : Option ((Int × Int × List (Int × ByteArray)) × Bool) := Fn spec_LoosenGroup.E spec_LoosenGroup.T spec_LoosenGroup.C spec_LoosenGroup.P spec_LoosenGroup.R spec_LoosenGroup.X (g, many)
theorem spec_LoosenGroup.l7_eq (many : Int) (g : Int × Int × List (Int × ByteArray)) (t4 : Int × Int × List (Int × ByteArray)) : spec_LoosenGroup.l7 many g t4 =
  (spec_LoosenGroup.l8 many g (t4.1, t4.2.1, t4.2.2) 0 (g.2.2.length : Int)) :=
  (fixP_eq spec_LoosenGroup.E spec_LoosenGroup.T spec_LoosenGroup.C spec_LoosenGroup.K 7 spec_LoosenGroup.D7 (many, g, t4)).trans (by kernel_rfl)
theorem spec_LoosenGroup.l8_eq (many : Int) (g : Int × Int × List (Int × ByteArray)) (t4 : Int × Int × List (Int × ByteArray)) (n : Int) (m : Int) : spec_LoosenGroup.l8 many g t4 n m =
  (bif (decide (n < many)) then (bif ((decide (0 ≤ n)) && (decide (n < (g.2.2.length : Int)))) then (bif (decide ((g.2.2.getD (n).toNat (0, em)).1 = 1)) then (spec_LoosenGroup.l8 many g (t4.1, t4.2.1, t4.2.2) (w64 (n + 1)) m) else
    (spec_LoosenGroup.l13 many g (t4.1, t4.2.1, t4.2.2) n m)) else none) else
  (spec_LoosenGroup.l13 many g (t4.1, t4.2.1, t4.2.2) n m)) :=
  (fixP_eq spec_LoosenGroup.E spec_LoosenGroup.T spec_LoosenGroup.C spec_LoosenGroup.K 8 spec_LoosenGroup.D8 (many, g, t4, n, m)).trans (by kernel_rfl)
theorem spec_LoosenGroup.l12_eq (many : Int) (g : Int × Int × List (Int × ByteArray)) (t4 : Int × Int × List (Int × ByteArray)) (n : Int) (m : Int) : spec_LoosenGroup.l12 many g t4 n m =
  (bif (decide ((w64 ((g.2.2.length : Int) - m)) < many)) then (bif ((decide (0 ≤ (w64 (m - 1)))) && (decide ((w64 (m - 1)) < (g.2.2.length : Int)))) then (bif (decide ((g.2.2.getD ((w64 (m - 1))).toNat (0, em)).1 = 1)) then (spec_LoosenGroup.l12 many g (t4.1, t4.2.1, t4.2.2) n (w64 (m - 1))) else
    (spec_LoosenGroup.l17 g (t4.1, t4.2.1, t4.2.2) n m)) else none) else
  (spec_LoosenGroup.l17 g (t4.1, t4.2.1, t4.2.2) n m)) :=
  (fixP_eq spec_LoosenGroup.E spec_LoosenGroup.T spec_LoosenGroup.C spec_LoosenGroup.K 12 spec_LoosenGroup.D12 (many, g, t4, n, m)).trans (by kernel_rfl)
theorem spec_LoosenGroup.l13_eq (many : Int) (g : Int × Int × List (Int × ByteArray)) (t4 : Int × Int × List (Int × ByteArray)) (n : Int) (m : Int) : spec_LoosenGroup.l13 many g t4 n m =
  (spec_LoosenGroup.l12 many g (t4.1, t4.2.1, t4.2.2) n m) :=
  (fixP_eq spec_LoosenGroup.E spec_LoosenGroup.T spec_LoosenGroup.C spec_LoosenGroup.K 13 spec_LoosenGroup.D13 (many, g, t4, n, m)).trans (by kernel_rfl)
theorem spec_LoosenGroup.l17_eq (g : Int × Int × List (Int × ByteArray)) (t4 : Int × Int × List (Int × ByteArray)) (n : Int) (m : Int) : spec_LoosenGroup.l17 g t4 n m =
  (bif ((decide (0 ≤ n)) && ((decide (n ≤ m)) && (decide (m ≤ (g.2.2.length : Int))))) then (bif (decide ((([] : List (Int × ByteArray)).length + ((g.2.2.take (m).toNat).drop (n).toNat).length) ≤ room 24)) then ((spec_l6Group.f ((w64 (g.1 + n)), (w64 (g.2.1 + n)), (([] : List (Int × ByteArray)) ++ ((g.2.2.take (m).toNat).drop (n).toNat)))).bind fun y43 =>
    bif (!y43) then (some ((0, 0, ([] : List (Int × ByteArray))), false)) else (some (((w64 (g.1 + n)), (w64 (g.2.1 + n)), (([] : List (Int × ByteArray)) ++ ((g.2.2.take (m).toNat).drop (n).toNat))), true))) else none) else none) :=
  (fixP_eq spec_LoosenGroup.E spec_LoosenGroup.T spec_LoosenGroup.C spec_LoosenGroup.K 17 spec_LoosenGroup.D17 (g, t4, n, m)).trans (by kernel_rfl)
theorem spec_LoosenGroup.f_eq (g : Int × Int × List (Int × ByteArray)) (many : Int) : spec_LoosenGroup.f g many =
  ((spec_l6Group.f g).bind fun y43 =>
  bif (!y43) then (some ((0, 0, ([] : List (Int × ByteArray))), false)) else
  (bif (decide (many < 0)) then (some ((0, 0, ([] : List (Int × ByteArray))), false)) else
   (spec_LoosenGroup.l7 many g (0, 0, ([] : List (Int × ByteArray)))))) := by kernel_rfl
noncomputable def spec_LoosenGroup.S : Abs.Sum := ⟨spec_LoosenGroup.P, spec_LoosenGroup.R, fun _ => Fn spec_LoosenGroup.E spec_LoosenGroup.T spec_LoosenGroup.C spec_LoosenGroup.P spec_LoosenGroup.R spec_LoosenGroup.X⟩
theorem spec_LoosenGroup.meets : Meets Try.prog 40 spec_LoosenGroup.S := meets_tab (S := spec_LoosenGroup.U) tabOk_all (AllMeets.cons spec_l6Group.meets AllMeets.nil) (AllStill.cons (fun _ _ _ => rfl) AllStill.nil) follows (by kernel_rfl : Try.prog.funcs[40]? = some Try.f40) (by kernel_rfl) (by kernel_rfl) (by kernel_rfl)
noncomputable def laws_sameGroup.C : Code := Try.f42.body.getD .skip
def laws_sameGroup.P : Par := (.cons (.val (.pair (.int .i64) (.pair (.int .i64) (.one (.list (.pair (.int .i64) (.one .str))))))) (.cons (.val (.pair (.int .i64) (.pair (.int .i64) (.one (.list (.pair (.int .i64) (.one .str))))))) .nil))
noncomputable def laws_sameGroup.U : SumTab := []
noncomputable def laws_sameGroup.E : Env := mkEnv TY AR laws_sameGroup.U
def laws_sameGroup.D7 : CutD := ⟨[2, 3], (.cons (.box 0 (.pair (.int .i64) (.pair (.int .i64) (.one (.list (.pair (.int .i64) (.one .str))))))) (.cons (.box 0 (.pair (.int .i64) (.pair (.int .i64) (.one (.list (.pair (.int .i64) (.one .str))))))) .nil))⟩
def laws_sameGroup.D8 : CutD := ⟨[2, 3, 29, 30], (.cons (.box 0 (.pair (.int .i64) (.pair (.int .i64) (.one (.list (.pair (.int .i64) (.one .str))))))) (.cons (.box 0 (.pair (.int .i64) (.pair (.int .i64) (.one (.list (.pair (.int .i64) (.one .str))))))) (.cons (.val (.int .i64)) (.cons (.val (.int .i64)) .nil))))⟩
noncomputable def laws_sameGroup.T : Tab := fun k => look k [(7, laws_sameGroup.D7), (8, laws_sameGroup.D8)]
def laws_sameGroup.R : List (Nat × Ty) := [(0, .bool)]
def laws_sameGroup.X : List ResultVar := [.tmp 4]
noncomputable def laws_sameGroup.K := fin laws_sameGroup.E ⟨laws_sameGroup.P, laws_sameGroup.R, fun _ _ => none⟩ laws_sameGroup.X laws_sameGroup.P.len 0
noncomputable def laws_sameGroup.l7 (a : Int × Int × List (Int × ByteArray)) (b : Int × Int × List (Int × ByteArray)) : Option (Bool) := fixP laws_sameGroup.E laws_sameGroup.T laws_sameGroup.C laws_sameGroup.K 7 laws_sameGroup.D7 (a, b)
noncomputable def laws_sameGroup.l8 (a : Int × Int × List (Int × ByteArray)) (b : Int × Int × List (Int × ByteArray)) (t29 : Int) (t30 : Int) : Option (Bool) := fixP laws_sameGroup.E laws_sameGroup.T laws_sameGroup.C laws_sameGroup.K 8 laws_sameGroup.D8 (a, b, t29, t30)
noncomputable def laws_sameGroup.f (a : Int × Int × List (Int × ByteArray)) (b : Int × Int × List (Int × ByteArray)) : Option (Bool) := Fn laws_sameGroup.E laws_sameGroup.T laws_sameGroup.C laws_sameGroup.P laws_sameGroup.R laws_sameGroup.X (a, b)
theorem laws_sameGroup.l7_eq (a : Int × Int × List (Int × ByteArray)) (b : Int × Int × List (Int × ByteArray)) : laws_sameGroup.l7 a b =
  (laws_sameGroup.l8 a b (a.2.2.length : Int) 0) :=
  (fixP_eq laws_sameGroup.E laws_sameGroup.T laws_sameGroup.C laws_sameGroup.K 7 laws_sameGroup.D7 (a, b)).trans (by kernel_rfl)
theorem laws_sameGroup.l8_eq (a : Int × Int × List (Int × ByteArray)) (b : Int × Int × List (Int × ByteArray)) (t29 : Int) (t30 : Int) : laws_sameGroup.l8 a b t29 t30 =
  (bif (decide (t30 < t29)) then (bif ((decide (0 ≤ t30)) && (decide (t30 < (a.2.2.length : Int)))) then (bif ((decide (0 ≤ t30)) && (decide (t30 < (b.2.2.length : Int)))) then (bif (!((decide ((a.2.2.getD (t30).toNat (0, em)).1 = (b.2.2.getD (t30).toNat (0, em)).1)) && ((a.2.2.getD (t30).toNat (0, em)).2.toList == (b.2.2.getD (t30).toNat (0, em)).2.toList))) then (some false) else
     (laws_sameGroup.l8 a b t29 (w64 (t30 + 1)))) else none) else none) else (some true)) :=
  (fixP_eq laws_sameGroup.E laws_sameGroup.T laws_sameGroup.C laws_sameGroup.K 8 laws_sameGroup.D8 (a, b, t29, t30)).trans (by kernel_rfl)
theorem laws_sameGroup.f_eq (a : Int × Int × List (Int × ByteArray)) (b : Int × Int × List (Int × ByteArray)) : laws_sameGroup.f a b =
  (bif (!(decide (a.1 = b.1))) then (some false) else
  (bif (!(decide (a.2.1 = b.2.1))) then (some false) else
   (bif (!(decide ((a.2.2.length : Int) = (b.2.2.length : Int)))) then (some false) else
    (laws_sameGroup.l7 a b)))) := by kernel_rfl
noncomputable def laws_sameGroup.S : Abs.Sum := ⟨laws_sameGroup.P, laws_sameGroup.R, fun _ => Fn laws_sameGroup.E laws_sameGroup.T laws_sameGroup.C laws_sameGroup.P laws_sameGroup.R laws_sameGroup.X⟩
theorem laws_sameGroup.meets : Meets Try.prog 42 laws_sameGroup.S := meets_tab (S := laws_sameGroup.U) tabOk_all AllMeets.nil AllStill.nil follows (by kernel_rfl : Try.prog.funcs[42]? = some Try.f42) (by kernel_rfl) (by kernel_rfl) (by kernel_rfl)
noncomputable def laws_sameGroups.C : Code := Try.f41.body.getD .skip
def laws_sameGroups.P : Par := (.cons (.val (.list (.pair (.int .i64) (.pair (.int .i64) (.one (.list (.pair (.int .i64) (.one .str)))))))) (.cons (.val (.list (.pair (.int .i64) (.pair (.int .i64) (.one (.list (.pair (.int .i64) (.one .str)))))))) .nil))
noncomputable def laws_sameGroups.U : SumTab := [(42, [], laws_sameGroup.S)]
noncomputable def laws_sameGroups.E : Env := mkEnv TY AR laws_sameGroups.U
def laws_sameGroups.D8 : CutD := ⟨[0, 1, 12, 13], (.cons (.val (.list (.pair (.int .i64) (.pair (.int .i64) (.one (.list (.pair (.int .i64) (.one .str)))))))) (.cons (.val (.list (.pair (.int .i64) (.pair (.int .i64) (.one (.list (.pair (.int .i64) (.one .str)))))))) (.cons (.val (.int .i64)) (.cons (.val (.int .i64)) .nil))))⟩
noncomputable def laws_sameGroups.T : Tab := fun k => look k [(8, laws_sameGroups.D8)]
def laws_sameGroups.R : List (Nat × Ty) := [(0, .bool)]
def laws_sameGroups.X : List ResultVar := [.tmp 4]
noncomputable def laws_sameGroups.K := fin laws_sameGroups.E ⟨laws_sameGroups.P, laws_sameGroups.R, fun _ _ => none⟩ laws_sameGroups.X laws_sameGroups.P.len 0
noncomputable def laws_sameGroups.l8 (a : List (Int × Int × List (Int × ByteArray))) (b : List (Int × Int × List (Int × ByteArray))) (t12 : Int) (t13 : Int) : Option (Bool) := fixP laws_sameGroups.E laws_sameGroups.T laws_sameGroups.C laws_sameGroups.K 8 laws_sameGroups.D8 (a, b, t12, t13)
noncomputable def laws_sameGroups.f (a : List (Int × Int × List (Int × ByteArray))) (b : List (Int × Int × List (Int × ByteArray))) : Option (Bool) := Fn laws_sameGroups.E laws_sameGroups.T laws_sameGroups.C laws_sameGroups.P laws_sameGroups.R laws_sameGroups.X (a, b)
theorem laws_sameGroups.l8_eq (a : List (Int × Int × List (Int × ByteArray))) (b : List (Int × Int × List (Int × ByteArray))) (t12 : Int) (t13 : Int) : laws_sameGroups.l8 a b t12 t13 =
  (bif (decide (t13 < t12)) then (bif ((decide (0 ≤ t13)) && (decide (t13 < (a.length : Int)))) then (bif ((decide (0 ≤ t13)) && (decide (t13 < (b.length : Int)))) then ((laws_sameGroup.f (a.getD (t13).toNat (0, 0, ([] : List (Int × ByteArray)))) (b.getD (t13).toNat (0, 0, ([] : List (Int × ByteArray))))).bind fun y43 =>
     bif (!y43) then (some false) else
     (laws_sameGroups.l8 a b t12 (w64 (t13 + 1)))) else none) else none) else (some true)) :=
  (fixP_eq laws_sameGroups.E laws_sameGroups.T laws_sameGroups.C laws_sameGroups.K 8 laws_sameGroups.D8 (a, b, t12, t13)).trans (by kernel_rfl)
theorem laws_sameGroups.f_eq (a : List (Int × Int × List (Int × ByteArray))) (b : List (Int × Int × List (Int × ByteArray))) : laws_sameGroups.f a b =
  (bif (!(decide ((a.length : Int) = (b.length : Int)))) then (some false) else
  (laws_sameGroups.l8 a b (a.length : Int) 0)) := by kernel_rfl
noncomputable def laws_sameGroups.S : Abs.Sum := ⟨laws_sameGroups.P, laws_sameGroups.R, fun _ => Fn laws_sameGroups.E laws_sameGroups.T laws_sameGroups.C laws_sameGroups.P laws_sameGroups.R laws_sameGroups.X⟩
theorem laws_sameGroups.meets : Meets Try.prog 41 laws_sameGroups.S := meets_tab (S := laws_sameGroups.U) tabOk_all (AllMeets.cons laws_sameGroup.meets AllMeets.nil) (AllStill.cons (fun _ _ _ => rfl) AllStill.nil) follows (by kernel_rfl : Try.prog.funcs[41]? = some Try.f41) (by kernel_rfl) (by kernel_rfl) (by kernel_rfl)
noncomputable def laws_FnHalves.C : Code := Try.f5.body.getD .skip
def laws_FnHalves.P : Par := (.cons (.val (.list (.int .u8))) (.cons (.val (.list (.int .u8))) .nil))
noncomputable def laws_FnHalves.U : SumTab := [(21, [], laws_big.S), (29, [], spec_DrawOldOf.S), (30, [], impl_OldOf.S), (31, [], spec_OldOf.S), (32, [], impl_NewOf.S), (33, [], spec_NewOf.S), (34, [], laws_sameTexts.S), (35, [], impl_SplitGroup.S), (36, [], spec_DrawSplitGroup.S), (37, [], spec_SplitGroup.S), (38, [], spec_DrawLoosenGroup.S), (39, [], impl_LoosenGroup.S), (40, [], spec_LoosenGroup.S), (41, [], laws_sameGroups.S), (42, [], laws_sameGroup.S)]
def laws_FnHalves.Z : List (Nat × List Nat) := [(23, [14])]
noncomputable def laws_FnHalves.E : Env := mkEnvZ TY AR laws_FnHalves.U laws_FnHalves.Z
def laws_FnHalves.D21 : CutD := ⟨[1, 5, 6, 7], (.cons (.val (.list (.int .u8))) (.cons (.box 0 (.pair (.int .i64) (.pair (.int .i64) (.one (.list (.pair (.int .i64) (.one .str))))))) (.cons (.own 8 .str) (.cons (.val .bool) .nil))))⟩
def laws_FnHalves.D32 : CutD := ⟨[1, 14, 16, 17, 105, 106, 107], (.cons (.val (.list (.int .u8))) (.cons (.own 8 (.pair (.int .i64) (.pair (.int .i64) (.one (.list (.pair (.int .i64) (.one .str))))))) (.cons (.val (.int .i64)) (.cons (.val (.int .i64)) (.cons (.val (.list (.pair (.int .i64) (.one .str)))) (.cons (.val (.int .i64)) (.cons (.val (.int .i64)) .nil)))))))⟩
def laws_FnHalves.D48 : CutD := ⟨[1, 16, 17, 122, 123, 124], (.cons (.val (.list (.int .u8))) (.cons (.val (.int .i64)) (.cons (.val (.int .i64)) (.cons (.val (.list (.pair (.int .i64) (.pair (.int .i64) (.one (.list (.pair (.int .i64) (.one .str)))))))) (.cons (.val (.int .i64)) (.cons (.val (.int .i64)) .nil))))))⟩
def laws_FnHalves.D54 : CutD := ⟨[1, 16, 17, 122, 123, 124, 129, 130, 131], (.cons (.val (.list (.int .u8))) (.cons (.val (.int .i64)) (.cons (.val (.int .i64)) (.cons (.val (.list (.pair (.int .i64) (.pair (.int .i64) (.one (.list (.pair (.int .i64) (.one .str)))))))) (.cons (.val (.int .i64)) (.cons (.val (.int .i64)) (.cons (.val (.list (.pair (.int .i64) (.one .str)))) (.cons (.val (.int .i64)) (.cons (.val (.int .i64)) .nil)))))))))⟩
def laws_FnHalves.D63 : CutD := ⟨[1, 16, 17, 23, 122, 123, 124, 129, 130, 131], (.cons (.val (.list (.int .u8))) (.cons (.val (.int .i64)) (.cons (.val (.int .i64)) (.cons (.box 9 (.pair (.int .i64) (.one .str))) (.cons (.val (.list (.pair (.int .i64) (.pair (.int .i64) (.one (.list (.pair (.int .i64) (.one .str)))))))) (.cons (.val (.int .i64)) (.cons (.val (.int .i64)) (.cons (.val (.list (.pair (.int .i64) (.one .str)))) (.cons (.val (.int .i64)) (.cons (.val (.int .i64)) .nil))))))))))⟩
def laws_FnHalves.D79 : CutD := ⟨[1], (.cons (.val (.list (.int .u8))) .nil)⟩
def laws_FnHalves.D95 : CutD := ⟨[30, 32, 33], (.cons (.box 0 (.pair (.int .i64) (.pair (.int .i64) (.one (.list (.pair (.int .i64) (.one .str))))))) (.cons (.box 9 (.pair (.int .i64) (.pair (.int .i64) (.one (.list (.pair (.int .i64) (.one .str))))))) (.cons (.val .bool) .nil)))⟩
noncomputable def laws_FnHalves.T : Tab := fun k => look k [(21, laws_FnHalves.D21), (32, laws_FnHalves.D32), (48, laws_FnHalves.D48), (54, laws_FnHalves.D54), (63, laws_FnHalves.D63), (79, laws_FnHalves.D79), (95, laws_FnHalves.D95)]
def laws_FnHalves.R : List (Nat × Ty) := [(0, .bool)]
def laws_FnHalves.X : List ResultVar := [.tmp 4]
noncomputable def laws_FnHalves.K := fin laws_FnHalves.E ⟨laws_FnHalves.P, laws_FnHalves.R, fun _ _ => none⟩ laws_FnHalves.X laws_FnHalves.P.len 0
noncomputable def laws_FnHalves.l21 (more : List Int) (g : Int × Int × List (Int × ByteArray)) (a : List ByteArray) (ok : Bool) : Option (Bool) := fixP laws_FnHalves.E laws_FnHalves.T laws_FnHalves.C laws_FnHalves.K 21 laws_FnHalves.D21 (more, g, a, ok)
noncomputable def laws_FnHalves.l32 (more : List Int) (s : List (Int × Int × List (Int × ByteArray))) (gone : Int) (come : Int) (t105 : List (Int × ByteArray)) (t106 : Int) (t107 : Int) : Option (Bool) := fixP laws_FnHalves.E laws_FnHalves.T laws_FnHalves.C laws_FnHalves.K 32 laws_FnHalves.D32 (more, s, gone, come, t105, t106, t107)
noncomputable def laws_FnHalves.l48 (more : List Int) (gone : Int) (come : Int) (t122 : List (Int × Int × List (Int × ByteArray))) (t123 : Int) (t124 : Int) : Option (Bool) := fixP laws_FnHalves.E laws_FnHalves.T laws_FnHalves.C laws_FnHalves.K 48 laws_FnHalves.D48 (more, gone, come, t122, t123, t124)
noncomputable def laws_FnHalves.l54 (more : List Int) (gone : Int) (come : Int) (t122 : List (Int × Int × List (Int × ByteArray))) (t123 : Int) (t124 : Int) (t129 : List (Int × ByteArray)) (t130 : Int) (t131 : Int) : Option (Bool) := fixP laws_FnHalves.E laws_FnHalves.T laws_FnHalves.C laws_FnHalves.K 54 laws_FnHalves.D54 (more, gone, come, t122, t123, t124, t129, t130, t131)
noncomputable def laws_FnHalves.l63 (more : List Int) (gone : Int) (come : Int) (r : Int × ByteArray) (t122 : List (Int × Int × List (Int × ByteArray))) (t123 : Int) (t124 : Int) (t129 : List (Int × ByteArray)) (t130 : Int) (t131 : Int) : Option (Bool) := fixP laws_FnHalves.E laws_FnHalves.T laws_FnHalves.C laws_FnHalves.K 63 laws_FnHalves.D63 (more, gone, come, r, t122, t123, t124, t129, t130, t131)
noncomputable def laws_FnHalves.l79 (more : List Int) : Option (Bool) := fixP laws_FnHalves.E laws_FnHalves.T laws_FnHalves.C laws_FnHalves.K 79 laws_FnHalves.D79 more
noncomputable def laws_FnHalves.l95 (d : Int × Int × List (Int × ByteArray)) (x : Int × Int × List (Int × ByteArray)) (five : Bool) : Option (Bool) := fixP laws_FnHalves.E laws_FnHalves.T laws_FnHalves.C laws_FnHalves.K 95 laws_FnHalves.D95 (d, x, five)
noncomputable def laws_FnHalves.f (code : List Int) (more : List Int) : Option (Bool) := Fn laws_FnHalves.E laws_FnHalves.T laws_FnHalves.C laws_FnHalves.P laws_FnHalves.R laws_FnHalves.X (code, more)
theorem laws_FnHalves.l21_eq (more : List Int) (g : Int × Int × List (Int × ByteArray)) (a : List ByteArray) (ok : Bool) : laws_FnHalves.l21 more g a ok =
  (bif ok then (bif (decide ((w64 ((a.length : Int) + g.1)) ≤ 900)) then ((impl_SplitGroup.f g 0).bind fun y43 =>
    bif (!y43.2) then (some false) else
    (laws_FnHalves.l32 more y43.1 0 0 g.2.2 (g.2.2.length : Int) 0)) else
   (laws_FnHalves.l79 more)) else
  (laws_FnHalves.l79 more)) :=
  (fixP_eq laws_FnHalves.E laws_FnHalves.T laws_FnHalves.C laws_FnHalves.K 21 laws_FnHalves.D21 (more, g, a, ok)).trans (by kernel_rfl)
theorem laws_FnHalves.l32_eq (more : List Int) (s : List (Int × Int × List (Int × ByteArray))) (gone : Int) (come : Int) (t105 : List (Int × ByteArray)) (t106 : Int) (t107 : Int) : laws_FnHalves.l32 more s gone come t105 t106 t107 =
  (bif (decide (t107 < t106)) then (bif ((decide (0 ≤ t107)) && (decide (t107 < (t105.length : Int)))) then (bif (decide ((t105.getD (t107).toNat (0, em)).1 = 2)) then (bif (decide ((t105.getD (t107).toNat (0, em)).1 = 3)) then (laws_FnHalves.l32 more s (w64 (gone + 1)) (w64 (come + 1)) t105 t106 (w64 (t107 + 1))) else
     (laws_FnHalves.l32 more s (w64 (gone + 1)) come t105 t106 (w64 (t107 + 1)))) else
    (bif (decide ((t105.getD (t107).toNat (0, em)).1 = 3)) then (laws_FnHalves.l32 more s gone (w64 (come + 1)) t105 t106 (w64 (t107 + 1))) else
     (laws_FnHalves.l32 more s gone come t105 t106 (w64 (t107 + 1))))) else none) else
  (laws_FnHalves.l48 more gone come s (s.length : Int) 0)) :=
  (fixP_eq laws_FnHalves.E laws_FnHalves.T laws_FnHalves.C laws_FnHalves.K 32 laws_FnHalves.D32 (more, s, gone, come, t105, t106, t107)).trans (by kernel_rfl)
theorem laws_FnHalves.l48_eq (more : List Int) (gone : Int) (come : Int) (t122 : List (Int × Int × List (Int × ByteArray))) (t123 : Int) (t124 : Int) : laws_FnHalves.l48 more gone come t122 t123 t124 =
  (bif (decide (t124 < t123)) then (bif ((decide (0 ≤ t124)) && (decide (t124 < (t122.length : Int)))) then (laws_FnHalves.l54 more gone come t122 t123 t124 (t122.getD (t124).toNat (0, 0, ([] : List (Int × ByteArray)))).2.2 ((t122.getD (t124).toNat (0, 0, ([] : List (Int × ByteArray)))).2.2.length : Int) 0) else none) else
  (bif (!(decide (gone = 0))) then (some false) else
   (bif (!(decide (come = 0))) then (some false) else
    (laws_FnHalves.l79 more)))) :=
  (fixP_eq laws_FnHalves.E laws_FnHalves.T laws_FnHalves.C laws_FnHalves.K 48 laws_FnHalves.D48 (more, gone, come, t122, t123, t124)).trans (by kernel_rfl)
theorem laws_FnHalves.l54_eq (more : List Int) (gone : Int) (come : Int) (t122 : List (Int × Int × List (Int × ByteArray))) (t123 : Int) (t124 : Int) (t129 : List (Int × ByteArray)) (t130 : Int) (t131 : Int) : laws_FnHalves.l54 more gone come t122 t123 t124 t129 t130 t131 =
  (bif (decide (t131 < t130)) then (bif ((decide (0 ≤ t131)) && (decide (t131 < (t129.length : Int)))) then (bif (decide ((t129.getD (t131).toNat (0, em)).1 = 2)) then (laws_FnHalves.l63 more (w64 (gone - 1)) come (t129.getD (t131).toNat (0, em)) t122 t123 t124 t129 t130 t131) else
    (laws_FnHalves.l63 more gone come (t129.getD (t131).toNat (0, em)) t122 t123 t124 t129 t130 t131)) else none) else
  (laws_FnHalves.l48 more gone come t122 t123 (w64 (t124 + 1)))) :=
  (fixP_eq laws_FnHalves.E laws_FnHalves.T laws_FnHalves.C laws_FnHalves.K 54 laws_FnHalves.D54 (more, gone, come, t122, t123, t124, t129, t130, t131)).trans (by kernel_rfl)
theorem laws_FnHalves.l63_eq (more : List Int) (gone : Int) (come : Int) (r : Int × ByteArray) (t122 : List (Int × Int × List (Int × ByteArray))) (t123 : Int) (t124 : Int) (t129 : List (Int × ByteArray)) (t130 : Int) (t131 : Int) : laws_FnHalves.l63 more gone come r t122 t123 t124 t129 t130 t131 =
  (bif (decide (r.1 = 3)) then (bif (decide (r.1 = 1)) then (some false) else
   (laws_FnHalves.l54 more gone (w64 (come - 1)) t122 t123 t124 t129 t130 (w64 (t131 + 1)))) else
  (bif (decide (r.1 = 1)) then (some false) else
   (laws_FnHalves.l54 more gone come t122 t123 t124 t129 t130 (w64 (t131 + 1))))) :=
  (fixP_eq laws_FnHalves.E laws_FnHalves.T laws_FnHalves.C laws_FnHalves.K 63 laws_FnHalves.D63 (more, gone, come, r, t122, t123, t124, t129, t130, t131)).trans (by kernel_rfl)
theorem laws_FnHalves.l79_eq (more : List Int) : laws_FnHalves.l79 more =
  ((spec_DrawSplitGroup.f more).bind fun y43 =>
  (impl_SplitGroup.f y43.1 y43.2).bind fun y44 =>
  (spec_SplitGroup.f y43.1 y43.2).bind fun y45 =>
  (spec_DrawLoosenGroup.f more).bind fun y46 =>
  (impl_LoosenGroup.f y46.1 y46.2).bind fun y47 =>
  (spec_LoosenGroup.f y46.1 y46.2).bind fun y48 =>
  bif (!(y44.2 == y45.2)) then (some false) else
  ((laws_sameGroups.f y44.1 y45.1).bind fun y49 =>
   bif (!y49) then (some false) else
   (bif (!(y47.2 == y48.2)) then (some false) else
    ((laws_sameGroup.f (y47.1.1, y47.1.2.1, y47.1.2.2) (y48.1.1, y48.1.2.1, y48.1.2.2)).bind fun y50 =>
     bif (!y50) then (some false) else
     (laws_FnHalves.l95 y46.1 (y47.1.1, y47.1.2.1, y47.1.2.2) y47.2))))) :=
  (fixP_eq laws_FnHalves.E laws_FnHalves.T laws_FnHalves.C laws_FnHalves.K 79 laws_FnHalves.D79 more).trans (by kernel_rfl)
theorem laws_FnHalves.l95_eq (d : Int × Int × List (Int × ByteArray)) (x : Int × Int × List (Int × ByteArray)) (five : Bool) : laws_FnHalves.l95 d x five =
  (bif five then ((impl_LoosenGroup.f (x.1, x.2.1, x.2.2) 0).bind fun y43 =>
   bif (decide ((x.2.2.length : Int) ≤ (d.2.2.length : Int))) then (bif (decide ((x.2.2.length : Int) > 0)) then (bif y43.2 then ((laws_sameGroup.f (y43.1.1, y43.1.2.1, y43.1.2.2) (x.1, x.2.1, x.2.2)).bind fun y44 =>
      some y44) else (some false)) else (some false)) else (some false)) else (some true)) :=
  (fixP_eq laws_FnHalves.E laws_FnHalves.T laws_FnHalves.C laws_FnHalves.K 95 laws_FnHalves.D95 (d, x, five)).trans (by kernel_rfl)
theorem laws_FnHalves.f_eq (code : List Int) (more : List Int) : laws_FnHalves.f code more =
  ((laws_big.f code more).bind fun y43 =>
  bif y43 then (some true) else
  ((spec_DrawOldOf.f code).bind fun y44 =>
   (impl_OldOf.f y44).bind fun y45 =>
   (spec_OldOf.f y44).bind fun y46 =>
   (impl_NewOf.f y44).bind fun y47 =>
   (spec_NewOf.f y44).bind fun y48 =>
   bif (!(y45.2 == y46.2)) then (some false) else
   ((laws_sameTexts.f y45.1 y46.1).bind fun y49 =>
    bif (!y49) then (some false) else
    (bif (!(y47.2 == y48.2)) then (some false) else
     ((laws_sameTexts.f y47.1 y48.1).bind fun y50 =>
      bif (!y50) then (some false) else
      (bif (!(y45.2 == y47.2)) then (some false) else
       (laws_FnHalves.l21 more y44 y45.1 y45.2))))))) := by kernel_rfl
noncomputable def laws_FnHalves.S : Abs.Sum := ⟨laws_FnHalves.P, laws_FnHalves.R, fun _ => Fn laws_FnHalves.E laws_FnHalves.T laws_FnHalves.C laws_FnHalves.P laws_FnHalves.R laws_FnHalves.X⟩
theorem laws_FnHalves.meets : Meets Try.prog 5 laws_FnHalves.S := meets_tabZ laws_FnHalves.Z (S := laws_FnHalves.U) tabOk_all (AllMeets.cons laws_big.meets (AllMeets.cons spec_DrawOldOf.meets (AllMeets.cons impl_OldOf.meets (AllMeets.cons spec_OldOf.meets (AllMeets.cons impl_NewOf.meets (AllMeets.cons spec_NewOf.meets (AllMeets.cons laws_sameTexts.meets (AllMeets.cons impl_SplitGroup.meets (AllMeets.cons spec_DrawSplitGroup.meets (AllMeets.cons spec_SplitGroup.meets (AllMeets.cons spec_DrawLoosenGroup.meets (AllMeets.cons impl_LoosenGroup.meets (AllMeets.cons spec_LoosenGroup.meets (AllMeets.cons laws_sameGroups.meets (AllMeets.cons laws_sameGroup.meets AllMeets.nil))))))))))))))) (AllStill.cons (fun _ _ _ => rfl) (AllStill.cons (fun _ _ _ => rfl) (AllStill.cons (fun _ _ _ => rfl) (AllStill.cons (fun _ _ _ => rfl) (AllStill.cons (fun _ _ _ => rfl) (AllStill.cons (fun _ _ _ => rfl) (AllStill.cons (fun _ _ _ => rfl) (AllStill.cons (fun _ _ _ => rfl) (AllStill.cons (fun _ _ _ => rfl) (AllStill.cons (fun _ _ _ => rfl) (AllStill.cons (fun _ _ _ => rfl) (AllStill.cons (fun _ _ _ => rfl) (AllStill.cons (fun _ _ _ => rfl) (AllStill.cons (fun _ _ _ => rfl) (AllStill.cons (fun _ _ _ => rfl) AllStill.nil))))))))))))))) follows (by kernel_rfl : Try.prog.funcs[5]? = some Try.f5) (by kernel_rfl) (by kernel_rfl) (by kernel_rfl)
end Go.Abs.G
