import Derived.Test.YtkbhmdlljfknoaaGB
set_option linter.unusedVariables false
set_option linter.unusedSimpArgs false
set_option linter.unusedSectionVars false
namespace Go.Abs.G
open Go Go.Abs Go.Proofs
noncomputable def spec_l1In.C : Code := Try.f113.body.getD .skip
def spec_l1In.P : Par := (.cons (.val (.int .i64)) (.cons (.val (.int .i64)) (.cons (.val (.int .i64)) .nil)))
noncomputable def spec_l1In.U : SumTab := []
noncomputable def spec_l1In.E : Env := mkEnv TY AR spec_l1In.U
noncomputable def spec_l1In.T : Tab := fun k => look k []
def spec_l1In.R : List (Nat × Ty) := [(0, .bool)]
def spec_l1In.X : List ResultVar := [.tmp 6]
noncomputable def spec_l1In.f (n : Int) (lo : Int) (hi : Int) : Option (Bool) := Fn spec_l1In.E spec_l1In.T spec_l1In.C spec_l1In.P spec_l1In.R spec_l1In.X (n, lo, hi)
theorem spec_l1In.f_eq (n : Int) (lo : Int) (hi : Int) : spec_l1In.f n lo hi =
  (bif (decide (n ≥ lo)) then (some (decide (n ≤ hi))) else (some false)) := by kernel_rfl
noncomputable def spec_l1In.S : Abs.Sum := ⟨spec_l1In.P, spec_l1In.R, fun _ => Fn spec_l1In.E spec_l1In.T spec_l1In.C spec_l1In.P spec_l1In.R spec_l1In.X⟩
theorem spec_l1In.meets : Meets Try.prog 113 spec_l1In.S := meets_tab (S := spec_l1In.U) tabOk_all AllMeets.nil AllStill.nil follows (by kernel_rfl : Try.prog.funcs[113]? = some Try.f113) (by kernel_rfl) (by kernel_rfl) (by kernel_rfl)
noncomputable def spec_l1Line.C : Code := Try.f159.body.getD .skip
def spec_l1Line.P : Par := (.cons (.val .str) .nil)
noncomputable def spec_l1Line.U : SumTab := [(113, [], spec_l1In.S)]
noncomputable def spec_l1Line.E : Env := mkEnv TY AR spec_l1Line.U
def spec_l1Line.D4 : CutD := ⟨[0, 3], (.cons (.val .str) (.cons (.val (.int .i64)) .nil))⟩
noncomputable def spec_l1Line.T : Tab := fun k => look k [(4, spec_l1Line.D4)]
def spec_l1Line.R : List (Nat × Ty) := [(0, .bool)]
def spec_l1Line.X : List ResultVar := [.tmp 2]
noncomputable def spec_l1Line.K := fin spec_l1Line.E ⟨spec_l1Line.P, spec_l1Line.R, fun _ _ => none⟩ spec_l1Line.X spec_l1Line.P.len 0
noncomputable def spec_l1Line.l4 (s : ByteArray) (i : Int) : Option (Bool) := fixP spec_l1Line.E spec_l1Line.T spec_l1Line.C spec_l1Line.K 4 spec_l1Line.D4 (s, i)
noncomputable def spec_l1Line.f (s : ByteArray) : Option (Bool) := Fn spec_l1Line.E spec_l1Line.T spec_l1Line.C spec_l1Line.P spec_l1Line.R spec_l1Line.X s
theorem spec_l1Line.l4_eq (s : ByteArray) (i : Int) : spec_l1Line.l4 s i =
  (bif (decide (i < (w64 ((s.size : Int) - 1)))) then (bif ((decide (0 ≤ i)) && (decide (i < (s.size : Int)))) then (bif (decide ((bt s i) = 10)) then (some false) else
    (spec_l1Line.l4 s (w64 (i + 1)))) else none) else
  ((spec_l1In.f (s.size : Int) 1 30).bind fun y1 =>
   some y1)) :=
  (fixP_eq spec_l1Line.E spec_l1Line.T spec_l1Line.C spec_l1Line.K 4 spec_l1Line.D4 (s, i)).trans (by kernel_rfl)
theorem spec_l1Line.f_eq (s : ByteArray) : spec_l1Line.f s =
  (spec_l1Line.l4 s 0) := by kernel_rfl
noncomputable def spec_l1Line.S : Abs.Sum := ⟨spec_l1Line.P, spec_l1Line.R, fun _ => Fn spec_l1Line.E spec_l1Line.T spec_l1Line.C spec_l1Line.P spec_l1Line.R spec_l1Line.X⟩
theorem spec_l1Line.meets : Meets Try.prog 159 spec_l1Line.S := meets_tab (S := spec_l1Line.U) tabOk_all (AllMeets.cons spec_l1In.meets AllMeets.nil) (AllStill.cons (fun _ _ _ => rfl) AllStill.nil) follows (by kernel_rfl : Try.prog.funcs[159]? = some Try.f159) (by kernel_rfl) (by kernel_rfl) (by kernel_rfl)
noncomputable def spec_l1Ends.C : Code := Try.f160.body.getD .skip
def spec_l1Ends.P : Par := (.cons (.val .str) .nil)
noncomputable def spec_l1Ends.U : SumTab := []
noncomputable def spec_l1Ends.E : Env := mkEnv TY AR spec_l1Ends.U
noncomputable def spec_l1Ends.T : Tab := fun k => look k []
def spec_l1Ends.R : List (Nat × Ty) := [(0, .bool)]
def spec_l1Ends.X : List ResultVar := [.tmp 2]
noncomputable def spec_l1Ends.f (s : ByteArray) : Option (Bool) := Fn spec_l1Ends.E spec_l1Ends.T spec_l1Ends.C spec_l1Ends.P spec_l1Ends.R spec_l1Ends.X s
theorem spec_l1Ends.f_eq (s : ByteArray) : spec_l1Ends.f s =
  (bif ((decide (0 ≤ (w64 ((s.size : Int) - 1)))) && (decide ((w64 ((s.size : Int) - 1)) < (s.size : Int)))) then (some (decide ((bt s (w64 ((s.size : Int) - 1))) = 10))) else none) := by kernel_rfl
noncomputable def spec_l1Ends.S : Abs.Sum := ⟨spec_l1Ends.P, spec_l1Ends.R, fun _ => Fn spec_l1Ends.E spec_l1Ends.T spec_l1Ends.C spec_l1Ends.P spec_l1Ends.R spec_l1Ends.X⟩
theorem spec_l1Ends.meets : Meets Try.prog 160 spec_l1Ends.S := meets_tab (S := spec_l1Ends.U) tabOk_all AllMeets.nil AllStill.nil follows (by kernel_rfl : Try.prog.funcs[160]? = some Try.f160) (by kernel_rfl) (by kernel_rfl) (by kernel_rfl)
noncomputable def spec_l1Good.C : Code := Try.f84.body.getD .skip
def spec_l1Good.P : Par := (.cons (.val (.list .str)) .nil)
noncomputable def spec_l1Good.U : SumTab := [(159, [], spec_l1Line.S), (160, [], spec_l1Ends.S)]
noncomputable def spec_l1Good.E : Env := mkEnv TY AR spec_l1Good.U
def spec_l1Good.D4 : CutD := ⟨[0, 5, 6, 7], (.cons (.val (.list .str)) (.cons (.val (.list .str)) (.cons (.val (.int .i64)) (.cons (.val (.int .i64)) .nil))))⟩
noncomputable def spec_l1Good.T : Tab := fun k => look k [(4, spec_l1Good.D4)]
def spec_l1Good.R : List (Nat × Ty) := [(0, .bool)]
def spec_l1Good.X : List ResultVar := [.tmp 2]
noncomputable def spec_l1Good.K := fin spec_l1Good.E ⟨spec_l1Good.P, spec_l1Good.R, fun _ _ => none⟩ spec_l1Good.X spec_l1Good.P.len 0
noncomputable def spec_l1Good.l4 (l : List ByteArray) (t5 : List ByteArray) (t6 : Int) (t7 : Int) : Option (Bool) := fixP spec_l1Good.E spec_l1Good.T spec_l1Good.C spec_l1Good.K 4 spec_l1Good.D4 (l, t5, t6, t7)
noncomputable def spec_l1Good.f (l : List ByteArray) : Option (Bool) := Fn spec_l1Good.E spec_l1Good.T spec_l1Good.C spec_l1Good.P spec_l1Good.R spec_l1Good.X l
theorem spec_l1Good.l4_eq (l : List ByteArray) (t5 : List ByteArray) (t6 : Int) (t7 : Int) : spec_l1Good.l4 l t5 t6 t7 =
  (bif (decide (t7 < t6)) then (bif ((decide (0 ≤ t7)) && (decide (t7 < (t5.length : Int)))) then ((spec_l1Line.f (t5.getD (t7).toNat em)).bind fun y1 =>
    bif (!y1) then (some false) else
    (bif (decide (t7 < (w64 ((l.length : Int) - 1)))) then ((spec_l1Ends.f (t5.getD (t7).toNat em)).bind fun y2 =>
      bif (!y2) then (some false) else
      (spec_l1Good.l4 l t5 t6 (w64 (t7 + 1)))) else
     (spec_l1Good.l4 l t5 t6 (w64 (t7 + 1))))) else none) else (some (decide ((l.length : Int) ≤ 40)))) :=
  (fixP_eq spec_l1Good.E spec_l1Good.T spec_l1Good.C spec_l1Good.K 4 spec_l1Good.D4 (l, t5, t6, t7)).trans (by kernel_rfl)
theorem spec_l1Good.f_eq (l : List ByteArray) : spec_l1Good.f l =
  (spec_l1Good.l4 l l (l.length : Int) 0) := by kernel_rfl
noncomputable def spec_l1Good.S : Abs.Sum := ⟨spec_l1Good.P, spec_l1Good.R, fun _ => Fn spec_l1Good.E spec_l1Good.T spec_l1Good.C spec_l1Good.P spec_l1Good.R spec_l1Good.X⟩
theorem spec_l1Good.meets : Meets Try.prog 84 spec_l1Good.S := meets_tab (S := spec_l1Good.U) tabOk_all (AllMeets.cons spec_l1Line.meets (AllMeets.cons spec_l1Ends.meets AllMeets.nil)) (AllStill.cons (fun _ _ _ => rfl) (AllStill.cons (fun _ _ _ => rfl) AllStill.nil)) follows (by kernel_rfl : Try.prog.funcs[84]? = some Try.f84) (by kernel_rfl) (by kernel_rfl) (by kernel_rfl)
noncomputable def spec_l2Hunks.C : Code := Try.f161.body.getD .skip
def spec_l2Hunks.P : Par := (.cons (.val (.int .i64)) (.cons (.val (.list (.pair (.int .i64) (.pair (.int .i64) (.one (.list .str)))))) .nil))
noncomputable def spec_l2Hunks.U : SumTab := [(159, [], spec_l1Line.S), (113, [], spec_l1In.S)]
noncomputable def spec_l2Hunks.E : Env := mkEnv TY AR spec_l2Hunks.U
def spec_l2Hunks.D4 : CutD := ⟨[0, 1, 9, 10, 11], (.cons (.val (.int .i64)) (.cons (.val (.list (.pair (.int .i64) (.pair (.int .i64) (.one (.list .str)))))) (.cons (.val (.list (.pair (.int .i64) (.pair (.int .i64) (.one (.list .str)))))) (.cons (.val (.int .i64)) (.cons (.val (.int .i64)) .nil)))))⟩
def spec_l2Hunks.D13 : CutD := ⟨[0, 1, 6, 9, 10, 11], (.cons (.val (.int .i64)) (.cons (.val (.list (.pair (.int .i64) (.pair (.int .i64) (.one (.list .str)))))) (.cons (.box 0 (.pair (.int .i64) (.pair (.int .i64) (.one (.list .str))))) (.cons (.val (.list (.pair (.int .i64) (.pair (.int .i64) (.one (.list .str)))))) (.cons (.val (.int .i64)) (.cons (.val (.int .i64)) .nil))))))⟩
def spec_l2Hunks.D14 : CutD := ⟨[0, 1, 9, 10, 11, 77, 78, 79], (.cons (.val (.int .i64)) (.cons (.val (.list (.pair (.int .i64) (.pair (.int .i64) (.one (.list .str)))))) (.cons (.val (.list (.pair (.int .i64) (.pair (.int .i64) (.one (.list .str)))))) (.cons (.val (.int .i64)) (.cons (.val (.int .i64)) (.cons (.val (.list .str)) (.cons (.val (.int .i64)) (.cons (.val (.int .i64)) .nil))))))))⟩
noncomputable def spec_l2Hunks.T : Tab := fun k => look k [(4, spec_l2Hunks.D4), (13, spec_l2Hunks.D13), (14, spec_l2Hunks.D14)]
def spec_l2Hunks.R : List (Nat × Ty) := [(0, .bool)]
def spec_l2Hunks.X : List ResultVar := [.tmp 4]
noncomputable def spec_l2Hunks.K := fin spec_l2Hunks.E ⟨spec_l2Hunks.P, spec_l2Hunks.R, fun _ _ => none⟩ spec_l2Hunks.X spec_l2Hunks.P.len 0
noncomputable def spec_l2Hunks.l4 (many : Int) (h : List (Int × Int × List ByteArray)) (t9 : List (Int × Int × List ByteArray)) (t10 : Int) (t11 : Int) : Option (Bool) := fixP spec_l2Hunks.E spec_l2Hunks.T spec_l2Hunks.C spec_l2Hunks.K 4 spec_l2Hunks.D4 (many, h, t9, t10, t11)
noncomputable def spec_l2Hunks.l13 (many : Int) (h : List (Int × Int × List ByteArray)) (x : Int × Int × List ByteArray) (t9 : List (Int × Int × List ByteArray)) (t10 : Int) (t11 : Int) : Option (Bool) := fixP spec_l2Hunks.E spec_l2Hunks.T spec_l2Hunks.C spec_l2Hunks.K 13 spec_l2Hunks.D13 (many, h, x, t9, t10, t11)
noncomputable def spec_l2Hunks.l14 (many : Int) (h : List (Int × Int × List ByteArray)) (t9 : List (Int × Int × List ByteArray)) (t10 : Int) (t11 : Int) (t77 : List ByteArray) (t78 : Int) (t79 : Int) : Option (Bool) := fixP spec_l2Hunks.E spec_l2Hunks.T spec_l2Hunks.C spec_l2Hunks.K 14 spec_l2Hunks.D14 (many, h, t9, t10, t11, t77, t78, t79)
noncomputable def spec_l2Hunks.f (many : Int) (h : List (Int × Int × List ByteArray)) : Option (Bool) := Fn spec_l2Hunks.E spec_l2Hunks.T spec_l2Hunks.C spec_l2Hunks.P spec_l2Hunks.R spec_l2Hunks.X (many, h)
theorem spec_l2Hunks.l4_eq (many : Int) (h : List (Int × Int × List ByteArray)) (t9 : List (Int × Int × List ByteArray)) (t10 : Int) (t11 : Int) : spec_l2Hunks.l4 many h t9 t10 t11 =
  (bif (decide (t11 < t10)) then (bif ((decide (0 ≤ t11)) && (decide (t11 < (t9.length : Int)))) then (bif (decide ((t9.getD (t11).toNat (0, 0, ([] : List ByteArray))).1 < 0)) then (some false) else
    (bif (decide ((t9.getD (t11).toNat (0, 0, ([] : List ByteArray))).2.1 < 0)) then (some false) else
     (bif (decide ((t9.getD (t11).toNat (0, 0, ([] : List ByteArray))).2.1 > many)) then (some false) else
      (bif (decide ((t9.getD (t11).toNat (0, 0, ([] : List ByteArray))).1 > (w64 (many - (t9.getD (t11).toNat (0, 0, ([] : List ByteArray))).2.1)))) then (some false) else
       (bif (decide ((w64 ((t9.getD (t11).toNat (0, 0, ([] : List ByteArray))).2.1 + ((t9.getD (t11).toNat (0, 0, ([] : List ByteArray))).2.2.length : Int))) = 0)) then (some false) else
        (bif (decide (((t9.getD (t11).toNat (0, 0, ([] : List ByteArray))).2.2.length : Int) > 40)) then (some false) else
         (bif (decide (t11 > 0)) then (bif ((decide (0 ≤ (w64 (t11 - 1)))) && (decide ((w64 (t11 - 1)) < (h.length : Int)))) then (bif ((decide (0 ≤ (w64 (t11 - 1)))) && (decide ((w64 (t11 - 1)) < (h.length : Int)))) then (bif (decide ((t9.getD (t11).toNat (0, 0, ([] : List ByteArray))).1 ≤ (w64 ((h.getD ((w64 (t11 - 1))).toNat (0, 0, ([] : List ByteArray))).1 + (h.getD ((w64 (t11 - 1))).toNat (0, 0, ([] : List ByteArray))).2.1)))) then (some false) else
             (spec_l2Hunks.l13 many h (t9.getD (t11).toNat (0, 0, ([] : List ByteArray))) t9 t10 t11)) else none) else none) else
          (spec_l2Hunks.l13 many h (t9.getD (t11).toNat (0, 0, ([] : List ByteArray))) t9 t10 t11)))))))) else none) else
  (bif (decide ((h.length : Int) ≤ 20)) then ((spec_l1In.f many 0 40).bind fun y1 =>
    some y1) else (some false))) :=
  (fixP_eq spec_l2Hunks.E spec_l2Hunks.T spec_l2Hunks.C spec_l2Hunks.K 4 spec_l2Hunks.D4 (many, h, t9, t10, t11)).trans (by kernel_rfl)
theorem spec_l2Hunks.l13_eq (many : Int) (h : List (Int × Int × List ByteArray)) (x : Int × Int × List ByteArray) (t9 : List (Int × Int × List ByteArray)) (t10 : Int) (t11 : Int) : spec_l2Hunks.l13 many h x t9 t10 t11 =
  (spec_l2Hunks.l14 many h t9 t10 t11 x.2.2 (x.2.2.length : Int) 0) :=
  (fixP_eq spec_l2Hunks.E spec_l2Hunks.T spec_l2Hunks.C spec_l2Hunks.K 13 spec_l2Hunks.D13 (many, h, x, t9, t10, t11)).trans (by kernel_rfl)
theorem spec_l2Hunks.l14_eq (many : Int) (h : List (Int × Int × List ByteArray)) (t9 : List (Int × Int × List ByteArray)) (t10 : Int) (t11 : Int) (t77 : List ByteArray) (t78 : Int) (t79 : Int) : spec_l2Hunks.l14 many h t9 t10 t11 t77 t78 t79 =
  (bif (decide (t79 < t78)) then (bif ((decide (0 ≤ t79)) && (decide (t79 < (t77.length : Int)))) then ((spec_l1Line.f (t77.getD (t79).toNat em)).bind fun y1 =>
    bif (!y1) then (some false) else
    (spec_l2Hunks.l14 many h t9 t10 t11 t77 t78 (w64 (t79 + 1)))) else none) else
  (spec_l2Hunks.l4 many h t9 t10 (w64 (t11 + 1)))) :=
  (fixP_eq spec_l2Hunks.E spec_l2Hunks.T spec_l2Hunks.C spec_l2Hunks.K 14 spec_l2Hunks.D14 (many, h, t9, t10, t11, t77, t78, t79)).trans (by kernel_rfl)
theorem spec_l2Hunks.f_eq (many : Int) (h : List (Int × Int × List ByteArray)) : spec_l2Hunks.f many h =
  (spec_l2Hunks.l4 many h h (h.length : Int) 0) := by kernel_rfl
noncomputable def spec_l2Hunks.S : Abs.Sum := ⟨spec_l2Hunks.P, spec_l2Hunks.R, fun _ => Fn spec_l2Hunks.E spec_l2Hunks.T spec_l2Hunks.C spec_l2Hunks.P spec_l2Hunks.R spec_l2Hunks.X⟩
theorem spec_l2Hunks.meets : Meets Try.prog 161 spec_l2Hunks.S := meets_tab (S := spec_l2Hunks.U) tabOk_all (AllMeets.cons spec_l1Line.meets (AllMeets.cons spec_l1In.meets AllMeets.nil)) (AllStill.cons (fun _ _ _ => rfl) (AllStill.cons (fun _ _ _ => rfl) AllStill.nil)) follows (by kernel_rfl : Try.prog.funcs[161]? = some Try.f161) (by kernel_rfl) (by kernel_rfl) (by kernel_rfl)
noncomputable def spec_l2Asked.C : Code := Try.f192.body.getD .skip
def spec_l2Asked.P : Par := (.cons (.val (.list .str)) (.cons (.val (.list (.pair (.int .i64) (.pair (.int .i64) (.one (.list .str)))))) .nil))
noncomputable def spec_l2Asked.U : SumTab := [(84, [], spec_l1Good.S), (161, [], spec_l2Hunks.S)]
noncomputable def spec_l2Asked.E : Env := mkEnv TY AR spec_l2Asked.U
noncomputable def spec_l2Asked.T : Tab := fun k => look k []
def spec_l2Asked.R : List (Nat × Ty) := [(0, .bool)]
def spec_l2Asked.X : List ResultVar := [.tmp 4]
noncomputable def spec_l2Asked.f (l : List ByteArray) (h : List (Int × Int × List ByteArray)) : Option (Bool) := Fn spec_l2Asked.E spec_l2Asked.T spec_l2Asked.C spec_l2Asked.P spec_l2Asked.R spec_l2Asked.X (l, h)
theorem spec_l2Asked.f_eq (l : List ByteArray) (h : List (Int × Int × List ByteArray)) : spec_l2Asked.f l h =
  ((spec_l1Good.f l).bind fun y1 =>
  bif y1 then ((spec_l2Hunks.f (l.length : Int) h).bind fun y2 =>
   some y2) else (some false)) := by kernel_rfl
noncomputable def spec_l2Asked.S : Abs.Sum := ⟨spec_l2Asked.P, spec_l2Asked.R, fun _ => Fn spec_l2Asked.E spec_l2Asked.T spec_l2Asked.C spec_l2Asked.P spec_l2Asked.R spec_l2Asked.X⟩
theorem spec_l2Asked.meets : Meets Try.prog 192 spec_l2Asked.S := meets_tab (S := spec_l2Asked.U) tabOk_all (AllMeets.cons spec_l1Good.meets (AllMeets.cons spec_l2Hunks.meets AllMeets.nil)) (AllStill.cons (fun _ _ _ => rfl) (AllStill.cons (fun _ _ _ => rfl) AllStill.nil)) follows (by kernel_rfl : Try.prog.funcs[192]? = some Try.f192) (by kernel_rfl) (by kernel_rfl) (by kernel_rfl)
noncomputable def spec_l2Patch.C : Code := Try.f163.body.getD .skip
def spec_l2Patch.P : Par := (.cons (.val (.list .str)) (.cons (.val (.list (.pair (.int .i64) (.pair (.int .i64) (.one (.list .str)))))) .nil))
noncomputable def spec_l2Patch.U : SumTab := []
noncomputable def spec_l2Patch.E : Env := mkEnv TY AR spec_l2Patch.U
def spec_l2Patch.D8 : CutD := ⟨[0, 5, 6, 9, 10, 11], (.cons (.val (.list .str)) (.cons (.own 9 .str) (.cons (.val (.int .i64)) (.cons (.val (.list (.pair (.int .i64) (.pair (.int .i64) (.one (.list .str)))))) (.cons (.val (.int .i64)) (.cons (.val (.int .i64)) .nil))))))⟩
noncomputable def spec_l2Patch.T : Tab := fun k => look k [(8, spec_l2Patch.D8)]
def spec_l2Patch.R : List (Nat × Ty) := [(9, .list .str)]
def spec_l2Patch.X : List ResultVar := [.tmp 4]
noncomputable def spec_l2Patch.K := fin spec_l2Patch.E ⟨spec_l2Patch.P, spec_l2Patch.R, fun _ _ => none⟩ spec_l2Patch.X spec_l2Patch.P.len 0
noncomputable def spec_l2Patch.l8 (l : List ByteArray) (out : List ByteArray) (t6 : Int) (t9 : List (Int × Int × List ByteArray)) (t10 : Int) (t11 : Int) : Option ((List ByteArray)) := fixP spec_l2Patch.E spec_l2Patch.T spec_l2Patch.C spec_l2Patch.K 8 spec_l2Patch.D8 (l, out, t6, t9, t10, t11)
noncomputable def spec_l2Patch.f (l : List ByteArray) (h : List (Int × Int × List ByteArray)) : Option ((List ByteArray)) := Fn spec_l2Patch.E spec_l2Patch.T spec_l2Patch.C spec_l2Patch.P spec_l2Patch.R spec_l2Patch.X (l, h)
theorem spec_l2Patch.l8_eq (l : List ByteArray) (out : List ByteArray) (t6 : Int) (t9 : List (Int × Int × List ByteArray)) (t10 : Int) (t11 : Int) : spec_l2Patch.l8 l out t6 t9 t10 t11 =
  (bif (decide (t11 < t10)) then (bif ((decide (0 ≤ t11)) && (decide (t11 < (t9.length : Int)))) then (bif ((decide (0 ≤ t6)) && ((decide (t6 ≤ (t9.getD (t11).toNat (0, 0, ([] : List ByteArray))).1)) && (decide ((t9.getD (t11).toNat (0, 0, ([] : List ByteArray))).1 ≤ (l.length : Int))))) then (bif (decide ((out.length + ((l.take ((t9.getD (t11).toNat (0, 0, ([] : List ByteArray))).1).toNat).drop (t6).toNat).length) ≤ room 16)) then (bif (decide (((out ++ ((l.take ((t9.getD (t11).toNat (0, 0, ([] : List ByteArray))).1).toNat).drop (t6).toNat)).length + (t9.getD (t11).toNat (0, 0, ([] : List ByteArray))).2.2.length) ≤ room 16)) then (spec_l2Patch.l8 l ((out ++ ((l.take ((t9.getD (t11).toNat (0, 0, ([] : List ByteArray))).1).toNat).drop (t6).toNat)) ++ (t9.getD (t11).toNat (0, 0, ([] : List ByteArray))).2.2) (w64 ((t9.getD (t11).toNat (0, 0, ([] : List ByteArray))).1 + (t9.getD (t11).toNat (0, 0, ([] : List ByteArray))).2.1)) t9 t10 (w64 (t11 + 1))) else none) else none) else none) else none) else
  (bif ((decide (0 ≤ t6)) && (decide (t6 ≤ (l.length : Int)))) then (bif (decide ((out.length + (l.drop (t6).toNat).length) ≤ room 16)) then (some (out ++ (l.drop (t6).toNat))) else none) else none)) :=
  (fixP_eq spec_l2Patch.E spec_l2Patch.T spec_l2Patch.C spec_l2Patch.K 8 spec_l2Patch.D8 (l, out, t6, t9, t10, t11)).trans (by kernel_rfl)
theorem spec_l2Patch.f_eq (l : List ByteArray) (h : List (Int × Int × List ByteArray)) : spec_l2Patch.f l h =
  (spec_l2Patch.l8 l ([] : List ByteArray) 0 h (h.length : Int) 0) := by kernel_rfl
noncomputable def spec_l2Patch.S : Abs.Sum := ⟨spec_l2Patch.P, spec_l2Patch.R, fun _ => Fn spec_l2Patch.E spec_l2Patch.T spec_l2Patch.C spec_l2Patch.P spec_l2Patch.R spec_l2Patch.X⟩
theorem spec_l2Patch.meets : Meets Try.prog 163 spec_l2Patch.S := meets_tab (S := spec_l2Patch.U) tabOk_all AllMeets.nil AllStill.nil follows (by kernel_rfl : Try.prog.funcs[163]? = some Try.f163) (by kernel_rfl) (by kernel_rfl) (by kernel_rfl)
noncomputable def spec_Patch.C : Code := Try.f138.body.getD .skip
def spec_Patch.P : Par := (.cons (.val (.list .str)) (.cons (.val (.list (.pair (.int .i64) (.pair (.int .i64) (.one (.list .str)))))) .nil))
noncomputable def spec_Patch.U : SumTab := [(192, [], spec_l2Asked.S), (163, [], spec_l2Patch.S), (84, [], spec_l1Good.S)]
noncomputable def spec_Patch.E : Env := mkEnv TY AR spec_Patch.U
noncomputable def spec_Patch.T : Tab := fun k => look k []
def spec_Patch.R : List (Nat × Ty) := [(9, .list .str), (0, .bool)]
def spec_Patch.X : List ResultVar := [.tmp 4, .tmp 5]
noncomputable def spec_Patch.f (l : List ByteArray) (h : List (Int × Int × List ByteArray)) : Option ((List ByteArray) × Bool) := Fn spec_Patch.E spec_Patch.T spec_Patch.C spec_Patch.P spec_Patch.R spec_Patch.X (l, h)
theorem spec_Patch.f_eq (l : List ByteArray) (h : List (Int × Int × List ByteArray)) : spec_Patch.f l h =
  ((spec_l2Asked.f l h).bind fun y1 =>
  bif (!y1) then (some (([] : List ByteArray), false)) else
  ((spec_l2Patch.f l h).bind fun y2 =>
   (spec_l1Good.f y2).bind fun y3 =>
   bif (!y3) then (some (([] : List ByteArray), false)) else (some (y2, true)))) := by kernel_rfl
noncomputable def spec_Patch.S : Abs.Sum := ⟨spec_Patch.P, spec_Patch.R, fun _ => Fn spec_Patch.E spec_Patch.T spec_Patch.C spec_Patch.P spec_Patch.R spec_Patch.X⟩
theorem spec_Patch.meets : Meets Try.prog 138 spec_Patch.S := meets_tab (S := spec_Patch.U) tabOk_all (AllMeets.cons spec_l2Asked.meets (AllMeets.cons spec_l2Patch.meets (AllMeets.cons spec_l1Good.meets AllMeets.nil))) (AllStill.cons (fun _ _ _ => rfl) (AllStill.cons (fun _ _ _ => rfl) (AllStill.cons (fun _ _ _ => rfl) AllStill.nil))) follows (by kernel_rfl : Try.prog.funcs[138]? = some Try.f138) (by kernel_rfl) (by kernel_rfl) (by kernel_rfl)
noncomputable def spec_l13Good.C : Code := Try.f83.body.getD .skip
def spec_l13Good.P : Par := (.cons (.val (.pair (.list .str) (.one (.list (.list (.pair (.int .i64) (.pair (.int .i64) (.one (.list .str))))))))) .nil)
noncomputable def spec_l13Good.U : SumTab := [(138, [], spec_Patch.S), (84, [], spec_l1Good.S)]
noncomputable def spec_l13Good.E : Env := mkEnv TY AR spec_l13Good.U
def spec_l13Good.D6 : CutD := ⟨[1, 3, 11, 12, 13], (.cons (.box 0 (.pair (.list .str) (.one (.list (.list (.pair (.int .i64) (.pair (.int .i64) (.one (.list .str))))))))) (.cons (.val (.list .str)) (.cons (.val (.list (.list (.pair (.int .i64) (.pair (.int .i64) (.one (.list .str))))))) (.cons (.val (.int .i64)) (.cons (.val (.int .i64)) .nil)))))⟩
noncomputable def spec_l13Good.T : Tab := fun k => look k [(6, spec_l13Good.D6)]
def spec_l13Good.R : List (Nat × Ty) := [(0, .bool)]
def spec_l13Good.X : List ResultVar := [.tmp 2]
noncomputable def spec_l13Good.K := fin spec_l13Good.E ⟨spec_l13Good.P, spec_l13Good.R, fun _ _ => none⟩ spec_l13Good.X spec_l13Good.P.len 0
noncomputable def spec_l13Good.l6 (s : (List ByteArray) × List (List (Int × Int × List ByteArray))) (l : List ByteArray) (t11 : List (List (Int × Int × List ByteArray))) (t12 : Int) (t13 : Int) : Option (Bool) := fixP spec_l13Good.E spec_l13Good.T spec_l13Good.C spec_l13Good.K 6 spec_l13Good.D6 (s, l, t11, t12, t13)
noncomputable def spec_l13Good.f (s : (List ByteArray) × List (List (Int × Int × List ByteArray))) : Option (Bool) := Fn spec_l13Good.E spec_l13Good.T spec_l13Good.C spec_l13Good.P spec_l13Good.R spec_l13Good.X s
theorem spec_l13Good.l6_eq (s : (List ByteArray) × List (List (Int × Int × List ByteArray))) (l : List ByteArray) (t11 : List (List (Int × Int × List ByteArray))) (t12 : Int) (t13 : Int) : spec_l13Good.l6 s l t11 t12 t13 =
  (bif (decide (t13 < t12)) then (bif ((decide (0 ≤ t13)) && (decide (t13 < (t11.length : Int)))) then ((spec_Patch.f l (t11.getD (t13).toNat ([] : List (Int × Int × List ByteArray)))).bind fun y1 =>
    bif (!y1.2) then (some false) else
    (spec_l13Good.l6 s y1.1 t11 t12 (w64 (t13 + 1)))) else none) else
  ((spec_l1Good.f s.1).bind fun y1 =>
   bif y1 then (some (decide ((s.2.length : Int) < 8))) else (some false))) :=
  (fixP_eq spec_l13Good.E spec_l13Good.T spec_l13Good.C spec_l13Good.K 6 spec_l13Good.D6 (s, l, t11, t12, t13)).trans (by kernel_rfl)
theorem spec_l13Good.f_eq (s : (List ByteArray) × List (List (Int × Int × List ByteArray))) : spec_l13Good.f s =
  (spec_l13Good.l6 s s.1 s.2 (s.2.length : Int) 0) := by kernel_rfl
noncomputable def spec_l13Good.S : Abs.Sum := ⟨spec_l13Good.P, spec_l13Good.R, fun _ => Fn spec_l13Good.E spec_l13Good.T spec_l13Good.C spec_l13Good.P spec_l13Good.R spec_l13Good.X⟩
theorem spec_l13Good.meets : Meets Try.prog 83 spec_l13Good.S := meets_tab (S := spec_l13Good.U) tabOk_all (AllMeets.cons spec_Patch.meets (AllMeets.cons spec_l1Good.meets AllMeets.nil)) (AllStill.cons (fun _ _ _ => rfl) (AllStill.cons (fun _ _ _ => rfl) AllStill.nil)) follows (by kernel_rfl : Try.prog.funcs[83]? = some Try.f83) (by kernel_rfl) (by kernel_rfl) (by kernel_rfl)
noncomputable def spec_l1OwnT.C : Code := Try.f122.body.getD .skip
def spec_l1OwnT.P : Par := (.cons (.val (.list .str)) .nil)
noncomputable def spec_l1OwnT.U : SumTab := []
noncomputable def spec_l1OwnT.E : Env := mkEnv TY AR spec_l1OwnT.U
noncomputable def spec_l1OwnT.T : Tab := fun k => look k []
def spec_l1OwnT.R : List (Nat × Ty) := [(9, .list .str)]
def spec_l1OwnT.X : List ResultVar := [.tmp 2]
noncomputable def spec_l1OwnT.f (l : List ByteArray) : Option ((List ByteArray)) := Fn spec_l1OwnT.E spec_l1OwnT.T spec_l1OwnT.C spec_l1OwnT.P spec_l1OwnT.R spec_l1OwnT.X l
theorem spec_l1OwnT.f_eq (l : List ByteArray) : spec_l1OwnT.f l =
  (bif (decide ((([] : List ByteArray).length + l.length) ≤ room 16)) then (some (([] : List ByteArray) ++ l)) else none) := by kernel_rfl
noncomputable def spec_l1OwnT.S : Abs.Sum := ⟨spec_l1OwnT.P, spec_l1OwnT.R, fun _ => Fn spec_l1OwnT.E spec_l1OwnT.T spec_l1OwnT.C spec_l1OwnT.P spec_l1OwnT.R spec_l1OwnT.X⟩
theorem spec_l1OwnT.meets : Meets Try.prog 122 spec_l1OwnT.S := meets_tab (S := spec_l1OwnT.U) tabOk_all AllMeets.nil AllStill.nil follows (by kernel_rfl : Try.prog.funcs[122]? = some Try.f122) (by kernel_rfl) (by kernel_rfl) (by kernel_rfl)
noncomputable def spec_l13At.C : Code := Try.f86.body.getD .skip
def spec_l13At.P : Par := (.cons (.val (.pair (.list .str) (.one (.list (.list (.pair (.int .i64) (.pair (.int .i64) (.one (.list .str))))))))) (.cons (.val (.int .i64)) .nil))
noncomputable def spec_l13At.U : SumTab := [(122, [], spec_l1OwnT.S), (163, [], spec_l2Patch.S)]
noncomputable def spec_l13At.E : Env := mkEnv TY AR spec_l13At.U
def spec_l13At.D6 : CutD := ⟨[5, 14, 15, 16], (.cons (.own 8 .str) (.cons (.val (.list (.list (.pair (.int .i64) (.pair (.int .i64) (.one (.list .str))))))) (.cons (.val (.int .i64)) (.cons (.val (.int .i64)) .nil))))⟩
noncomputable def spec_l13At.T : Tab := fun k => look k [(6, spec_l13At.D6)]
def spec_l13At.R : List (Nat × Ty) := [(9, .list .str)]
def spec_l13At.X : List ResultVar := [.tmp 4]
noncomputable def spec_l13At.K := fin spec_l13At.E ⟨spec_l13At.P, spec_l13At.R, fun _ _ => none⟩ spec_l13At.X spec_l13At.P.len 0
noncomputable def spec_l13At.l6 (l : List ByteArray) (t14 : List (List (Int × Int × List ByteArray))) (t15 : Int) (t16 : Int) : Option ((List ByteArray)) := fixP spec_l13At.E spec_l13At.T spec_l13At.C spec_l13At.K 6 spec_l13At.D6 (l, t14, t15, t16)
noncomputable def spec_l13At.f (s : (List ByteArray) × List (List (Int × Int × List ByteArray))) (n : Int) : Option ((List ByteArray)) := Fn spec_l13At.E spec_l13At.T spec_l13At.C spec_l13At.P spec_l13At.R spec_l13At.X (s, n)
theorem spec_l13At.l6_eq (l : List ByteArray) (t14 : List (List (Int × Int × List ByteArray))) (t15 : Int) (t16 : Int) : spec_l13At.l6 l t14 t15 t16 =
  (bif (decide (t16 < t15)) then (bif ((decide (0 ≤ t16)) && (decide (t16 < (t14.length : Int)))) then ((spec_l2Patch.f l (t14.getD (t16).toNat ([] : List (Int × Int × List ByteArray)))).bind fun y1 =>
    spec_l13At.l6 y1 t14 t15 (w64 (t16 + 1))) else none) else (some l)) :=
  (fixP_eq spec_l13At.E spec_l13At.T spec_l13At.C spec_l13At.K 6 spec_l13At.D6 (l, t14, t15, t16)).trans (by kernel_rfl)
theorem spec_l13At.f_eq (s : (List ByteArray) × List (List (Int × Int × List ByteArray))) (n : Int) : spec_l13At.f s n =
  ((spec_l1OwnT.f s.1).bind fun y1 =>
  bif ((decide (0 ≤ n)) && (decide (n ≤ (s.2.length : Int)))) then (spec_l13At.l6 y1 (s.2.take (n).toNat) ((s.2.take (n).toNat).length : Int) 0) else none) := by kernel_rfl
noncomputable def spec_l13At.S : Abs.Sum := ⟨spec_l13At.P, spec_l13At.R, fun _ => Fn spec_l13At.E spec_l13At.T spec_l13At.C spec_l13At.P spec_l13At.R spec_l13At.X⟩
theorem spec_l13At.meets : Meets Try.prog 86 spec_l13At.S := meets_tab (S := spec_l13At.U) tabOk_all (AllMeets.cons spec_l1OwnT.meets (AllMeets.cons spec_l2Patch.meets AllMeets.nil)) (AllStill.cons (fun _ _ _ => rfl) (AllStill.cons (fun _ _ _ => rfl) AllStill.nil)) follows (by kernel_rfl : Try.prog.funcs[86]? = some Try.f86) (by kernel_rfl) (by kernel_rfl) (by kernel_rfl)
noncomputable def spec_l1Most.C : Code := Try.f148.body.getD .skip
def spec_l1Most.P : Par := (.cons (.val (.int .i64)) (.cons (.val (.int .i64)) .nil))
noncomputable def spec_l1Most.U : SumTab := []
noncomputable def spec_l1Most.E : Env := mkEnv TY AR spec_l1Most.U
noncomputable def spec_l1Most.T : Tab := fun k => look k []
def spec_l1Most.R : List (Nat × Ty) := [(0, .int .i64)]
def spec_l1Most.X : List ResultVar := [.tmp 4]
noncomputable def spec_l1Most.f (a : Int) (b : Int) : Option (Int) := Fn spec_l1Most.E spec_l1Most.T spec_l1Most.C spec_l1Most.P spec_l1Most.R spec_l1Most.X (a, b)
theorem spec_l1Most.f_eq (a : Int) (b : Int) : spec_l1Most.f a b =
  (bif (decide (a > b)) then (some a) else (some b)) := by kernel_rfl
noncomputable def spec_l1Most.S : Abs.Sum := ⟨spec_l1Most.P, spec_l1Most.R, fun _ => Fn spec_l1Most.E spec_l1Most.T spec_l1Most.C spec_l1Most.P spec_l1Most.R spec_l1Most.X⟩
theorem spec_l1Most.meets : Meets Try.prog 148 spec_l1Most.S := meets_tab (S := spec_l1Most.U) tabOk_all AllMeets.nil AllStill.nil follows (by kernel_rfl : Try.prog.funcs[148]? = some Try.f148) (by kernel_rfl) (by kernel_rfl) (by kernel_rfl)
noncomputable def spec_l3Table.C : Code := Try.f229.body.getD .skip
def spec_l3Table.P : Par := (.cons (.val (.list .str)) (.cons (.val (.list .str)) .nil))
noncomputable def spec_l3Table.U : SumTab := [(148, [], spec_l1Most.S)]
noncomputable def spec_l3Table.E : Env := mkEnv TY AR spec_l3Table.U
def spec_l3Table.D6 : CutD := ⟨[0, 1, 5, 14, 15], (.cons (.val (.list .str)) (.cons (.val (.list .str)) (.cons (.own 9 (.list (.int .i64))) (.cons (.val (.int .i64)) (.cons (.val (.int .i64)) .nil)))))⟩
def spec_l3Table.D16 : CutD := ⟨[0, 1, 5, 7], (.cons (.val (.list .str)) (.cons (.val (.list .str)) (.cons (.own 9 (.list (.int .i64))) (.cons (.val (.int .i64)) .nil))))⟩
def spec_l3Table.D22 : CutD := ⟨[0, 1, 5, 7, 8], (.cons (.val (.list .str)) (.cons (.val (.list .str)) (.cons (.own 9 (.list (.int .i64))) (.cons (.val (.int .i64)) (.cons (.val (.int .i64)) .nil)))))⟩
noncomputable def spec_l3Table.T : Tab := fun k => look k [(6, spec_l3Table.D6), (16, spec_l3Table.D16), (22, spec_l3Table.D22)]
def spec_l3Table.R : List (Nat × Ty) := [(9, .list (.list (.int .i64)))]
def spec_l3Table.X : List ResultVar := [.tmp 4]
noncomputable def spec_l3Table.K := fin spec_l3Table.E ⟨spec_l3Table.P, spec_l3Table.R, fun _ _ => none⟩ spec_l3Table.X spec_l3Table.P.len 0
noncomputable def spec_l3Table.l6 (a : List ByteArray) (b : List ByteArray) (t : List (List Int)) (t14 : Int) (t15 : Int) : Option ((List (List Int))) := fixP spec_l3Table.E spec_l3Table.T spec_l3Table.C spec_l3Table.K 6 spec_l3Table.D6 (a, b, t, t14, t15)
noncomputable def spec_l3Table.l16 (a : List ByteArray) (b : List ByteArray) (t : List (List Int)) (i : Int) : Option ((List (List Int))) := fixP spec_l3Table.E spec_l3Table.T spec_l3Table.C spec_l3Table.K 16 spec_l3Table.D16 (a, b, t, i)
noncomputable def spec_l3Table.l22 (a : List ByteArray) (b : List ByteArray) (t : List (List Int)) (i : Int) (j : Int) : Option ((List (List Int))) := fixP spec_l3Table.E spec_l3Table.T spec_l3Table.C spec_l3Table.K 22 spec_l3Table.D22 (a, b, t, i, j)
noncomputable def spec_l3Table.f (a : List ByteArray) (b : List ByteArray) : Option ((List (List Int))) := Fn spec_l3Table.E spec_l3Table.T spec_l3Table.C spec_l3Table.P spec_l3Table.R spec_l3Table.X (a, b)
theorem spec_l3Table.l6_eq (a : List ByteArray) (b : List ByteArray) (t : List (List Int)) (t14 : Int) (t15 : Int) : spec_l3Table.l6 a b t t14 t15 =
  (bif (decide (t15 < t14)) then (bif ((decide (0 ≤ (w64 ((b.length : Int) + 1)))) && (decide (((w64 ((b.length : Int) + 1))).toNat ≤ room 8))) then (bif ((decide (0 ≤ t15)) && (decide (t15 < (t.length : Int)))) then (spec_l3Table.l6 a b (t.set (t15).toNat (List.replicate ((w64 ((b.length : Int) + 1))).toNat 0)) t14 (w64 (t15 + 1))) else none) else none) else
  (spec_l3Table.l16 a b t (w64 ((a.length : Int) - 1)))) :=
  (fixP_eq spec_l3Table.E spec_l3Table.T spec_l3Table.C spec_l3Table.K 6 spec_l3Table.D6 (a, b, t, t14, t15)).trans (by kernel_rfl)
theorem spec_l3Table.l16_eq (a : List ByteArray) (b : List ByteArray) (t : List (List Int)) (i : Int) : spec_l3Table.l16 a b t i =
  (bif (decide (i ≥ 0)) then (spec_l3Table.l22 a b t i (w64 ((b.length : Int) - 1))) else (some t)) :=
  (fixP_eq spec_l3Table.E spec_l3Table.T spec_l3Table.C spec_l3Table.K 16 spec_l3Table.D16 (a, b, t, i)).trans (by kernel_rfl)
theorem spec_l3Table.l22_eq (a : List ByteArray) (b : List ByteArray) (t : List (List Int)) (i : Int) (j : Int) : spec_l3Table.l22 a b t i j =
  (bif (decide (j ≥ 0)) then (bif ((decide (0 ≤ i)) && (decide (i < (t.length : Int)))) then (bif ((decide (0 ≤ (w64 (i + 1)))) && (decide ((w64 (i + 1)) < (t.length : Int)))) then (bif ((decide (0 ≤ j)) && (decide (j < ((t.getD ((w64 (i + 1))).toNat ([] : List Int)).length : Int)))) then (bif ((decide (0 ≤ i)) && (decide (i < (t.length : Int)))) then (bif ((decide (0 ≤ (w64 (j + 1)))) && (decide ((w64 (j + 1)) < ((t.getD (i).toNat ([] : List Int)).length : Int)))) then ((spec_l1Most.f ((t.getD ((w64 (i + 1))).toNat ([] : List Int)).getD (j).toNat 0) ((t.getD (i).toNat ([] : List Int)).getD ((w64 (j + 1))).toNat 0)).bind fun y1 =>
        bif ((decide (0 ≤ j)) && (decide (j < ((t.getD (i).toNat ([] : List Int)).length : Int)))) then (bif ((decide (0 ≤ i)) && (decide (i < (a.length : Int)))) then (bif ((decide (0 ≤ j)) && (decide (j < (b.length : Int)))) then (bif ((a.getD (i).toNat em).toList == (b.getD (j).toNat em).toList) then (bif ((decide (0 ≤ i)) && (decide (i < ((t.set (i).toNat ((t.getD (i).toNat ([] : List Int)).set (j).toNat y1)).length : Int)))) then (bif ((decide (0 ≤ i)) && (decide (i < ((t.set (i).toNat ((t.getD (i).toNat ([] : List Int)).set (j).toNat y1)).length : Int)))) then (bif ((decide (0 ≤ j)) && (decide (j < (((t.set (i).toNat ((t.getD (i).toNat ([] : List Int)).set (j).toNat y1)).getD (i).toNat ([] : List Int)).length : Int)))) then (bif ((decide (0 ≤ (w64 (i + 1)))) && (decide ((w64 (i + 1)) < ((t.set (i).toNat ((t.getD (i).toNat ([] : List Int)).set (j).toNat y1)).length : Int)))) then (bif ((decide (0 ≤ (w64 (j + 1)))) && (decide ((w64 (j + 1)) < (((t.set (i).toNat ((t.getD (i).toNat ([] : List Int)).set (j).toNat y1)).getD ((w64 (i + 1))).toNat ([] : List Int)).length : Int)))) then ((spec_l1Most.f (((t.set (i).toNat ((t.getD (i).toNat ([] : List Int)).set (j).toNat y1)).getD (i).toNat ([] : List Int)).getD (j).toNat 0) (w64 ((((t.set (i).toNat ((t.getD (i).toNat ([] : List Int)).set (j).toNat y1)).getD ((w64 (i + 1))).toNat ([] : List Int)).getD ((w64 (j + 1))).toNat 0) + 1))).bind fun y2 =>
                 bif ((decide (0 ≤ j)) && (decide (j < (((t.set (i).toNat ((t.getD (i).toNat ([] : List Int)).set (j).toNat y1)).getD (i).toNat ([] : List Int)).length : Int)))) then (spec_l3Table.l22 a b ((t.set (i).toNat ((t.getD (i).toNat ([] : List Int)).set (j).toNat y1)).set (i).toNat (((t.set (i).toNat ((t.getD (i).toNat ([] : List Int)).set (j).toNat y1)).getD (i).toNat ([] : List Int)).set (j).toNat y2)) i (w64 (j - 1))) else none) else none) else none) else none) else none) else none) else
           (spec_l3Table.l22 a b (t.set (i).toNat ((t.getD (i).toNat ([] : List Int)).set (j).toNat y1)) i (w64 (j - 1)))) else none) else none) else none) else none) else none) else none) else none) else none) else
  (spec_l3Table.l16 a b t (w64 (i - 1)))) :=
  (fixP_eq spec_l3Table.E spec_l3Table.T spec_l3Table.C spec_l3Table.K 22 spec_l3Table.D22 (a, b, t, i, j)).trans (by kernel_rfl)
theorem spec_l3Table.f_eq (a : List ByteArray) (b : List ByteArray) : spec_l3Table.f a b =
  (bif ((decide (0 ≤ (w64 ((a.length : Int) + 1)))) && (decide (((w64 ((a.length : Int) + 1))).toNat ≤ room 24))) then (spec_l3Table.l6 a b (List.replicate ((w64 ((a.length : Int) + 1))).toNat ([] : List Int)) ((List.replicate ((w64 ((a.length : Int) + 1))).toNat ([] : List Int)).length : Int) 0) else none) := by kernel_rfl
noncomputable def spec_l3Table.S : Abs.Sum := ⟨spec_l3Table.P, spec_l3Table.R, fun _ => Fn spec_l3Table.E spec_l3Table.T spec_l3Table.C spec_l3Table.P spec_l3Table.R spec_l3Table.X⟩
theorem spec_l3Table.meets : Meets Try.prog 229 spec_l3Table.S := meets_tab (S := spec_l3Table.U) tabOk_all (AllMeets.cons spec_l1Most.meets AllMeets.nil) (AllStill.cons (fun _ _ _ => rfl) AllStill.nil) follows (by kernel_rfl : Try.prog.funcs[229]? = some Try.f229) (by kernel_rfl) (by kernel_rfl) (by kernel_rfl)
noncomputable def spec_l3Pairs.C : Code := Try.f205.body.getD .skip
def spec_l3Pairs.P : Par := (.cons (.val (.list .str)) (.cons (.val (.list .str)) .nil))
noncomputable def spec_l3Pairs.U : SumTab := [(229, [], spec_l3Table.S)]
noncomputable def spec_l3Pairs.E : Env := mkEnv TY AR spec_l3Pairs.U
def spec_l3Pairs.D8 : CutD := ⟨[0, 1, 5, 6, 7, 8], (.cons (.val (.list .str)) (.cons (.val (.list .str)) (.cons (.own 8 (.list (.int .i64))) (.cons (.own 9 (.pair (.int .i64) (.one (.int .i64)))) (.cons (.val (.int .i64)) (.cons (.val (.int .i64)) .nil))))))⟩
def spec_l3Pairs.D14 : CutD := ⟨[0, 1, 5, 6, 7, 8, 9, 10, 11], (.cons (.val (.list .str)) (.cons (.val (.list .str)) (.cons (.own 8 (.list (.int .i64))) (.cons (.own 9 (.pair (.int .i64) (.one (.int .i64)))) (.cons (.val (.int .i64)) (.cons (.val (.int .i64)) (.cons (.val (.int .i64)) (.cons (.val (.int .i64)) (.cons (.val (.int .i64)) .nil)))))))))⟩
def spec_l3Pairs.D20 : CutD := ⟨[0, 1, 5, 6, 7, 8, 9, 10, 11, 12], (.cons (.val (.list .str)) (.cons (.val (.list .str)) (.cons (.own 8 (.list (.int .i64))) (.cons (.own 9 (.pair (.int .i64) (.one (.int .i64)))) (.cons (.val (.int .i64)) (.cons (.val (.int .i64)) (.cons (.val (.int .i64)) (.cons (.val (.int .i64)) (.cons (.val (.int .i64)) (.cons (.val (.int .i64)) .nil))))))))))⟩
noncomputable def spec_l3Pairs.T : Tab := fun k => look k [(8, spec_l3Pairs.D8), (14, spec_l3Pairs.D14), (20, spec_l3Pairs.D20)]
def spec_l3Pairs.R : List (Nat × Ty) := [(9, .list (.pair (.int .i64) (.one (.int .i64))))]
def spec_l3Pairs.X : List ResultVar := [.tmp 4]
noncomputable def spec_l3Pairs.K := fin spec_l3Pairs.E ⟨spec_l3Pairs.P, spec_l3Pairs.R, fun _ _ => none⟩ spec_l3Pairs.X spec_l3Pairs.P.len 0
noncomputable def spec_l3Pairs.l8 (a : List ByteArray) (b : List ByteArray) (t : List (List Int)) (out : List (Int × Int)) (i : Int) (j : Int) : Option ((List (Int × Int))) := fixP spec_l3Pairs.E spec_l3Pairs.T spec_l3Pairs.C spec_l3Pairs.K 8 spec_l3Pairs.D8 (a, b, t, out, i, j)
noncomputable def spec_l3Pairs.l14 (a : List ByteArray) (b : List ByteArray) (t : List (List Int)) (out : List (Int × Int)) (i : Int) (j : Int) (x : Int) (y : Int) (p : Int) : Option ((List (Int × Int))) := fixP spec_l3Pairs.E spec_l3Pairs.T spec_l3Pairs.C spec_l3Pairs.K 14 spec_l3Pairs.D14 (a, b, t, out, i, j, x, y, p)
noncomputable def spec_l3Pairs.l20 (a : List ByteArray) (b : List ByteArray) (t : List (List Int)) (out : List (Int × Int)) (i : Int) (j : Int) (x : Int) (y : Int) (p : Int) (q : Int) : Option ((List (Int × Int))) := fixP spec_l3Pairs.E spec_l3Pairs.T spec_l3Pairs.C spec_l3Pairs.K 20 spec_l3Pairs.D20 (a, b, t, out, i, j, x, y, p, q)
noncomputable def spec_l3Pairs.f (a : List ByteArray) (b : List ByteArray) : Option ((List (Int × Int))) := Fn spec_l3Pairs.E spec_l3Pairs.T spec_l3Pairs.C spec_l3Pairs.P spec_l3Pairs.R spec_l3Pairs.X (a, b)
theorem spec_l3Pairs.l8_eq (a : List ByteArray) (b : List ByteArray) (t : List (List Int)) (out : List (Int × Int)) (i : Int) (j : Int) : spec_l3Pairs.l8 a b t out i j =
  (bif ((decide (0 ≤ i)) && (decide (i < (t.length : Int)))) then (bif ((decide (0 ≤ j)) && (decide (j < ((t.getD (i).toNat ([] : List Int)).length : Int)))) then (bif (decide (((t.getD (i).toNat ([] : List Int)).getD (j).toNat 0) > 0)) then (spec_l3Pairs.l14 a b t out i j (a.length : Int) (b.length : Int) (w64 ((a.length : Int) - 1))) else (some out)) else none) else none) :=
  (fixP_eq spec_l3Pairs.E spec_l3Pairs.T spec_l3Pairs.C spec_l3Pairs.K 8 spec_l3Pairs.D8 (a, b, t, out, i, j)).trans (by kernel_rfl)
theorem spec_l3Pairs.l14_eq (a : List ByteArray) (b : List ByteArray) (t : List (List Int)) (out : List (Int × Int)) (i : Int) (j : Int) (x : Int) (y : Int) (p : Int) : spec_l3Pairs.l14 a b t out i j x y p =
  (bif (decide (p ≥ i)) then (spec_l3Pairs.l20 a b t out i j x y p (w64 ((b.length : Int) - 1))) else
  (bif (decide ((out.length + [(x, y)].length) ≤ room 16)) then (spec_l3Pairs.l8 a b t (out ++ [(x, y)]) (w64 (x + 1)) (w64 (y + 1))) else none)) :=
  (fixP_eq spec_l3Pairs.E spec_l3Pairs.T spec_l3Pairs.C spec_l3Pairs.K 14 spec_l3Pairs.D14 (a, b, t, out, i, j, x, y, p)).trans (by kernel_rfl)
theorem spec_l3Pairs.l20_eq (a : List ByteArray) (b : List ByteArray) (t : List (List Int)) (out : List (Int × Int)) (i : Int) (j : Int) (x : Int) (y : Int) (p : Int) (q : Int) : spec_l3Pairs.l20 a b t out i j x y p q =
  (bif (decide (q ≥ j)) then (bif ((decide (0 ≤ p)) && (decide (p < (a.length : Int)))) then (bif ((decide (0 ≤ q)) && (decide (q < (b.length : Int)))) then (bif ((a.getD (p).toNat em).toList == (b.getD (q).toNat em).toList) then (bif ((decide (0 ≤ (w64 (p + 1)))) && (decide ((w64 (p + 1)) < (t.length : Int)))) then (bif ((decide (0 ≤ (w64 (q + 1)))) && (decide ((w64 (q + 1)) < ((t.getD ((w64 (p + 1))).toNat ([] : List Int)).length : Int)))) then (bif ((decide (0 ≤ i)) && (decide (i < (t.length : Int)))) then (bif ((decide (0 ≤ j)) && (decide (j < ((t.getD (i).toNat ([] : List Int)).length : Int)))) then (bif (decide ((w64 (((t.getD ((w64 (p + 1))).toNat ([] : List Int)).getD ((w64 (q + 1))).toNat 0) + 1)) = ((t.getD (i).toNat ([] : List Int)).getD (j).toNat 0))) then (spec_l3Pairs.l20 a b t out i j p q p (w64 (q - 1))) else
          (spec_l3Pairs.l20 a b t out i j x y p (w64 (q - 1)))) else none) else none) else none) else none) else
     (spec_l3Pairs.l20 a b t out i j x y p (w64 (q - 1)))) else none) else none) else
  (spec_l3Pairs.l14 a b t out i j x y (w64 (p - 1)))) :=
  (fixP_eq spec_l3Pairs.E spec_l3Pairs.T spec_l3Pairs.C spec_l3Pairs.K 20 spec_l3Pairs.D20 (a, b, t, out, i, j, x, y, p, q)).trans (by kernel_rfl)
theorem spec_l3Pairs.f_eq (a : List ByteArray) (b : List ByteArray) : spec_l3Pairs.f a b =
  ((spec_l3Table.f a b).bind fun y1 =>
  spec_l3Pairs.l8 a b y1 ([] : List (Int × Int)) 0 0) := by kernel_rfl
noncomputable def spec_l3Pairs.S : Abs.Sum := ⟨spec_l3Pairs.P, spec_l3Pairs.R, fun _ => Fn spec_l3Pairs.E spec_l3Pairs.T spec_l3Pairs.C spec_l3Pairs.P spec_l3Pairs.R spec_l3Pairs.X⟩
theorem spec_l3Pairs.meets : Meets Try.prog 205 spec_l3Pairs.S := meets_tab (S := spec_l3Pairs.U) tabOk_all (AllMeets.cons spec_l3Table.meets AllMeets.nil) (AllStill.cons (fun _ _ _ => rfl) AllStill.nil) follows (by kernel_rfl : Try.prog.funcs[205]? = some Try.f205) (by kernel_rfl) (by kernel_rfl) (by kernel_rfl)
noncomputable def spec_l2Join.C : Code := Try.f204.body.getD .skip
def spec_l2Join.P : Par := (.cons (.val (.list .str)) (.cons (.val (.list .str)) (.cons (.own 5 (.pair (.int .i64) (.one (.int .i64)))) .nil)))
noncomputable def spec_l2Join.U : SumTab := [(122, [], spec_l1OwnT.S)]
noncomputable def spec_l2Join.E : Env := mkEnv TY AR spec_l2Join.U
def spec_l2Join.D8 : CutD := ⟨[1, 7, 8, 9, 19, 20, 21], (.cons (.val (.list .str)) (.cons (.own 9 (.pair (.int .i64) (.pair (.int .i64) (.one (.list .str))))) (.cons (.val (.int .i64)) (.cons (.val (.int .i64)) (.cons (.own 9 (.pair (.int .i64) (.one (.int .i64)))) (.cons (.val (.int .i64)) (.cons (.val (.int .i64)) .nil)))))))⟩
def spec_l2Join.D17 : CutD := ⟨[1, 7, 11, 19, 20, 21], (.cons (.val (.list .str)) (.cons (.own 9 (.pair (.int .i64) (.pair (.int .i64) (.one (.list .str))))) (.cons (.box 9 (.pair (.int .i64) (.one (.int .i64)))) (.cons (.own 9 (.pair (.int .i64) (.one (.int .i64)))) (.cons (.val (.int .i64)) (.cons (.val (.int .i64)) .nil))))))⟩
noncomputable def spec_l2Join.T : Tab := fun k => look k [(8, spec_l2Join.D8), (17, spec_l2Join.D17)]
def spec_l2Join.R : List (Nat × Ty) := [(9, .list (.pair (.int .i64) (.pair (.int .i64) (.one (.list .str)))))]
def spec_l2Join.X : List ResultVar := [.tmp 6]
noncomputable def spec_l2Join.K := fin spec_l2Join.E ⟨spec_l2Join.P, spec_l2Join.R, fun _ _ => none⟩ spec_l2Join.X spec_l2Join.P.len 0
noncomputable def spec_l2Join.l8 (last : List ByteArray) (out : List (Int × Int × List ByteArray)) (i : Int) (j : Int) (t19 : List (Int × Int)) (t20 : Int) (t21 : Int) : Option ((List (Int × Int × List ByteArray))) := fixP spec_l2Join.E spec_l2Join.T spec_l2Join.C spec_l2Join.K 8 spec_l2Join.D8 (last, out, i, j, t19, t20, t21)
noncomputable def spec_l2Join.l17 (last : List ByteArray) (out : List (Int × Int × List ByteArray)) (s : Int × Int) (t19 : List (Int × Int)) (t20 : Int) (t21 : Int) : Option ((List (Int × Int × List ByteArray))) := fixP spec_l2Join.E spec_l2Join.T spec_l2Join.C spec_l2Join.K 17 spec_l2Join.D17 (last, out, s, t19, t20, t21)
noncomputable def spec_l2Join.f (first : List ByteArray) (last : List ByteArray) (stay : List (Int × Int)) : Option ((List (Int × Int × List ByteArray))) := Fn spec_l2Join.E spec_l2Join.T spec_l2Join.C spec_l2Join.P spec_l2Join.R spec_l2Join.X (first, last, stay)
theorem spec_l2Join.l8_eq (last : List ByteArray) (out : List (Int × Int × List ByteArray)) (i : Int) (j : Int) (t19 : List (Int × Int)) (t20 : Int) (t21 : Int) : spec_l2Join.l8 last out i j t19 t20 t21 =
  (bif (decide (t21 < t20)) then (bif ((decide (0 ≤ t21)) && (decide (t21 < (t19.length : Int)))) then (bif (decide ((t19.getD (t21).toNat (0, 0)).1 > i)) then (bif ((decide (0 ≤ j)) && ((decide (j ≤ (t19.getD (t21).toNat (0, 0)).2)) && (decide ((t19.getD (t21).toNat (0, 0)).2 ≤ (last.length : Int))))) then ((spec_l1OwnT.f ((last.take ((t19.getD (t21).toNat (0, 0)).2).toNat).drop (j).toNat)).bind fun y1 =>
      bif (decide ((out.length + [(i, (w64 ((t19.getD (t21).toNat (0, 0)).1 - i)), y1)].length) ≤ room 40)) then (spec_l2Join.l17 last (out ++ [(i, (w64 ((t19.getD (t21).toNat (0, 0)).1 - i)), y1)]) (t19.getD (t21).toNat (0, 0)) t19 t20 t21) else none) else none) else
    (bif (decide ((t19.getD (t21).toNat (0, 0)).2 > j)) then (bif ((decide (0 ≤ j)) && ((decide (j ≤ (t19.getD (t21).toNat (0, 0)).2)) && (decide ((t19.getD (t21).toNat (0, 0)).2 ≤ (last.length : Int))))) then ((spec_l1OwnT.f ((last.take ((t19.getD (t21).toNat (0, 0)).2).toNat).drop (j).toNat)).bind fun y1 =>
       bif (decide ((out.length + [(i, (w64 ((t19.getD (t21).toNat (0, 0)).1 - i)), y1)].length) ≤ room 40)) then (spec_l2Join.l17 last (out ++ [(i, (w64 ((t19.getD (t21).toNat (0, 0)).1 - i)), y1)]) (t19.getD (t21).toNat (0, 0)) t19 t20 t21) else none) else none) else
     (spec_l2Join.l17 last out (t19.getD (t21).toNat (0, 0)) t19 t20 t21))) else none) else (some out)) :=
  (fixP_eq spec_l2Join.E spec_l2Join.T spec_l2Join.C spec_l2Join.K 8 spec_l2Join.D8 (last, out, i, j, t19, t20, t21)).trans (by kernel_rfl)
theorem spec_l2Join.l17_eq (last : List ByteArray) (out : List (Int × Int × List ByteArray)) (s : Int × Int) (t19 : List (Int × Int)) (t20 : Int) (t21 : Int) : spec_l2Join.l17 last out s t19 t20 t21 =
  (spec_l2Join.l8 last out (w64 (s.1 + 1)) (w64 (s.2 + 1)) t19 t20 (w64 (t21 + 1))) :=
  (fixP_eq spec_l2Join.E spec_l2Join.T spec_l2Join.C spec_l2Join.K 17 spec_l2Join.D17 (last, out, s, t19, t20, t21)).trans (by kernel_rfl)
theorem spec_l2Join.f_eq (first : List ByteArray) (last : List ByteArray) (stay : List (Int × Int)) : spec_l2Join.f first last stay =
  (bif (decide ((stay.length + [((first.length : Int), (last.length : Int))].length) ≤ room 16)) then (spec_l2Join.l8 last ([] : List (Int × Int × List ByteArray)) 0 0 (stay ++ [((first.length : Int), (last.length : Int))]) ((stay ++ [((first.length : Int), (last.length : Int))]).length : Int) 0) else none) := by kernel_rfl
noncomputable def spec_l2Join.S : Abs.Sum := ⟨spec_l2Join.P, spec_l2Join.R, fun _ => Fn spec_l2Join.E spec_l2Join.T spec_l2Join.C spec_l2Join.P spec_l2Join.R spec_l2Join.X⟩
theorem spec_l2Join.meets : Meets Try.prog 204 spec_l2Join.S := meets_tab (S := spec_l2Join.U) tabOk_all (AllMeets.cons spec_l1OwnT.meets AllMeets.nil) (AllStill.cons (fun _ _ _ => rfl) AllStill.nil) follows (by kernel_rfl : Try.prog.funcs[204]? = some Try.f204) (by kernel_rfl) (by kernel_rfl) (by kernel_rfl)
noncomputable def spec_l3Diff.C : Code := Try.f162.body.getD .skip
def spec_l3Diff.P : Par := (.cons (.val (.list .str)) (.cons (.val (.list .str)) .nil))
noncomputable def spec_l3Diff.U : SumTab := [(205, [], spec_l3Pairs.S), (204, [], spec_l2Join.S)]
noncomputable def spec_l3Diff.E : Env := mkEnv TY AR spec_l3Diff.U
noncomputable def spec_l3Diff.T : Tab := fun k => look k []
def spec_l3Diff.R : List (Nat × Ty) := [(9, .list (.pair (.int .i64) (.pair (.int .i64) (.one (.list .str)))))]
def spec_l3Diff.X : List ResultVar := [.tmp 4]
noncomputable def spec_l3Diff.f (a : List ByteArray) (b : List ByteArray) : Option ((List (Int × Int × List ByteArray))) := Fn spec_l3Diff.E spec_l3Diff.T spec_l3Diff.C spec_l3Diff.P spec_l3Diff.R spec_l3Diff.X (a, b)
theorem spec_l3Diff.f_eq (a : List ByteArray) (b : List ByteArray) : spec_l3Diff.f a b =
  ((spec_l3Pairs.f a b).bind fun y1 =>
  (spec_l2Join.f a b y1).bind fun y2 =>
  some y2) := by kernel_rfl
noncomputable def spec_l3Diff.S : Abs.Sum := ⟨spec_l3Diff.P, spec_l3Diff.R, fun _ => Fn spec_l3Diff.E spec_l3Diff.T spec_l3Diff.C spec_l3Diff.P spec_l3Diff.R spec_l3Diff.X⟩
theorem spec_l3Diff.meets : Meets Try.prog 162 spec_l3Diff.S := meets_tab (S := spec_l3Diff.U) tabOk_all (AllMeets.cons spec_l3Pairs.meets (AllMeets.cons spec_l2Join.meets AllMeets.nil)) (AllStill.cons (fun _ _ _ => rfl) (AllStill.cons (fun _ _ _ => rfl) AllStill.nil)) follows (by kernel_rfl : Try.prog.funcs[162]? = some Try.f162) (by kernel_rfl) (by kernel_rfl) (by kernel_rfl)
noncomputable def spec_DiffHunks.C : Code := Try.f85.body.getD .skip
def spec_DiffHunks.P : Par := (.cons (.val (.list .str)) (.cons (.val (.list .str)) .nil))
noncomputable def spec_DiffHunks.U : SumTab := [(84, [], spec_l1Good.S), (162, [], spec_l3Diff.S), (161, [], spec_l2Hunks.S)]
noncomputable def spec_DiffHunks.E : Env := mkEnv TY AR spec_DiffHunks.U
def spec_DiffHunks.D7 : CutD := ⟨[0, 1], (.cons (.val (.list .str)) (.cons (.val (.list .str)) .nil))⟩
noncomputable def spec_DiffHunks.T : Tab := fun k => look k [(7, spec_DiffHunks.D7)]
def spec_DiffHunks.R : List (Nat × Ty) := [(9, .list (.pair (.int .i64) (.pair (.int .i64) (.one (.list .str))))), (0, .bool)]
def spec_DiffHunks.X : List ResultVar := [.tmp 4, .tmp 5]
noncomputable def spec_DiffHunks.K := fin spec_DiffHunks.E ⟨spec_DiffHunks.P, spec_DiffHunks.R, fun _ _ => none⟩ spec_DiffHunks.X spec_DiffHunks.P.len 0
noncomputable def spec_DiffHunks.l7 (a : List ByteArray) (b : List ByteArray) : Option ((List (Int × Int × List ByteArray)) × Bool) := fixP spec_DiffHunks.E spec_DiffHunks.T spec_DiffHunks.C spec_DiffHunks.K 7 spec_DiffHunks.D7 (a, b)
noncomputable def spec_DiffHunks.f (a : List ByteArray) (b : List ByteArray) : Option ((List (Int × Int × List ByteArray)) × Bool) := Fn spec_DiffHunks.E spec_DiffHunks.T spec_DiffHunks.C spec_DiffHunks.P spec_DiffHunks.R spec_DiffHunks.X (a, b)
theorem spec_DiffHunks.l7_eq (a : List ByteArray) (b : List ByteArray) : spec_DiffHunks.l7 a b =
  ((spec_l3Diff.f a b).bind fun y1 =>
  some (y1, true)) :=
  (fixP_eq spec_DiffHunks.E spec_DiffHunks.T spec_DiffHunks.C spec_DiffHunks.K 7 spec_DiffHunks.D7 (a, b)).trans (by kernel_rfl)
theorem spec_DiffHunks.f_eq (a : List ByteArray) (b : List ByteArray) : spec_DiffHunks.f a b =
  ((spec_l1Good.f a).bind fun y1 =>
  bif (!y1) then (some (([] : List (Int × Int × List ByteArray)), false)) else
  ((spec_l1Good.f b).bind fun y2 =>
   bif (!y2) then (some (([] : List (Int × Int × List ByteArray)), false)) else
   ((spec_l3Diff.f a b).bind fun y3 =>
    (spec_l2Hunks.f (a.length : Int) y3).bind fun y4 =>
    bif (!y4) then (some (([] : List (Int × Int × List ByteArray)), false)) else
    (spec_DiffHunks.l7 a b)))) := by kernel_rfl
noncomputable def spec_DiffHunks.S : Abs.Sum := ⟨spec_DiffHunks.P, spec_DiffHunks.R, fun _ => Fn spec_DiffHunks.E spec_DiffHunks.T spec_DiffHunks.C spec_DiffHunks.P spec_DiffHunks.R spec_DiffHunks.X⟩
theorem spec_DiffHunks.meets : Meets Try.prog 85 spec_DiffHunks.S := meets_tab (S := spec_DiffHunks.U) tabOk_all (AllMeets.cons spec_l1Good.meets (AllMeets.cons spec_l3Diff.meets (AllMeets.cons spec_l2Hunks.meets AllMeets.nil))) (AllStill.cons (fun _ _ _ => rfl) (AllStill.cons (fun _ _ _ => rfl) (AllStill.cons (fun _ _ _ => rfl) AllStill.nil))) follows (by kernel_rfl : Try.prog.funcs[85]? = some Try.f85) (by kernel_rfl) (by kernel_rfl) (by kernel_rfl)
noncomputable def spec_l13OwnH.C : Code := Try.f164.body.getD .skip
def spec_l13OwnH.P : Par := (.cons (.val (.list (.pair (.int .i64) (.pair (.int .i64) (.one (.list .str)))))) .nil)
noncomputable def spec_l13OwnH.U : SumTab := [(122, [], spec_l1OwnT.S)]
noncomputable def spec_l13OwnH.E : Env := mkEnv TY AR spec_l13OwnH.U
def spec_l13OwnH.D6 : CutD := ⟨[3, 6, 7, 8], (.cons (.own 9 (.pair (.int .i64) (.pair (.int .i64) (.one (.list .str))))) (.cons (.val (.list (.pair (.int .i64) (.pair (.int .i64) (.one (.list .str)))))) (.cons (.val (.int .i64)) (.cons (.val (.int .i64)) .nil))))⟩
noncomputable def spec_l13OwnH.T : Tab := fun k => look k [(6, spec_l13OwnH.D6)]
def spec_l13OwnH.R : List (Nat × Ty) := [(9, .list (.pair (.int .i64) (.pair (.int .i64) (.one (.list .str)))))]
def spec_l13OwnH.X : List ResultVar := [.tmp 2]
noncomputable def spec_l13OwnH.K := fin spec_l13OwnH.E ⟨spec_l13OwnH.P, spec_l13OwnH.R, fun _ _ => none⟩ spec_l13OwnH.X spec_l13OwnH.P.len 0
noncomputable def spec_l13OwnH.l6 (out : List (Int × Int × List ByteArray)) (t6 : List (Int × Int × List ByteArray)) (t7 : Int) (t8 : Int) : Option ((List (Int × Int × List ByteArray))) := fixP spec_l13OwnH.E spec_l13OwnH.T spec_l13OwnH.C spec_l13OwnH.K 6 spec_l13OwnH.D6 (out, t6, t7, t8)
noncomputable def spec_l13OwnH.f (h : List (Int × Int × List ByteArray)) : Option ((List (Int × Int × List ByteArray))) := Fn spec_l13OwnH.E spec_l13OwnH.T spec_l13OwnH.C spec_l13OwnH.P spec_l13OwnH.R spec_l13OwnH.X h
theorem spec_l13OwnH.l6_eq (out : List (Int × Int × List ByteArray)) (t6 : List (Int × Int × List ByteArray)) (t7 : Int) (t8 : Int) : spec_l13OwnH.l6 out t6 t7 t8 =
  (bif (decide (t8 < t7)) then (bif ((decide (0 ≤ t8)) && (decide (t8 < (t6.length : Int)))) then ((spec_l1OwnT.f (t6.getD (t8).toNat (0, 0, ([] : List ByteArray))).2.2).bind fun y1 =>
    bif (decide ((out.length + [((t6.getD (t8).toNat (0, 0, ([] : List ByteArray))).1, (t6.getD (t8).toNat (0, 0, ([] : List ByteArray))).2.1, y1)].length) ≤ room 40)) then (spec_l13OwnH.l6 (out ++ [((t6.getD (t8).toNat (0, 0, ([] : List ByteArray))).1, (t6.getD (t8).toNat (0, 0, ([] : List ByteArray))).2.1, y1)]) t6 t7 (w64 (t8 + 1))) else none) else none) else (some out)) :=
  (fixP_eq spec_l13OwnH.E spec_l13OwnH.T spec_l13OwnH.C spec_l13OwnH.K 6 spec_l13OwnH.D6 (out, t6, t7, t8)).trans (by kernel_rfl)
theorem spec_l13OwnH.f_eq (h : List (Int × Int × List ByteArray)) : spec_l13OwnH.f h =
  (spec_l13OwnH.l6 ([] : List (Int × Int × List ByteArray)) h (h.length : Int) 0) := by kernel_rfl
noncomputable def spec_l13OwnH.S : Abs.Sum := ⟨spec_l13OwnH.P, spec_l13OwnH.R, fun _ => Fn spec_l13OwnH.E spec_l13OwnH.T spec_l13OwnH.C spec_l13OwnH.P spec_l13OwnH.R spec_l13OwnH.X⟩
theorem spec_l13OwnH.meets : Meets Try.prog 164 spec_l13OwnH.S := meets_tab (S := spec_l13OwnH.U) tabOk_all (AllMeets.cons spec_l1OwnT.meets AllMeets.nil) (AllStill.cons (fun _ _ _ => rfl) AllStill.nil) follows (by kernel_rfl : Try.prog.funcs[164]? = some Try.f164) (by kernel_rfl) (by kernel_rfl) (by kernel_rfl)
noncomputable def spec_l13Own.C : Code := Try.f87.body.getD .skip
def spec_l13Own.P : Par := (.cons (.val (.pair (.list .str) (.one (.list (.list (.pair (.int .i64) (.pair (.int .i64) (.one (.list .str))))))))) .nil)
noncomputable def spec_l13Own.U : SumTab := [(122, [], spec_l1OwnT.S), (164, [], spec_l13OwnH.S)]
noncomputable def spec_l13Own.E : Env := mkEnv TY AR spec_l13Own.U
def spec_l13Own.D6 : CutD := ⟨[2, 3, 11, 12, 13], (.cons (.box 9 (.pair (.list .str) (.one (.list (.list (.pair (.int .i64) (.pair (.int .i64) (.one (.list .str))))))))) (.cons (.box 9 (.pair (.list .str) (.one (.list (.list (.pair (.int .i64) (.pair (.int .i64) (.one (.list .str))))))))) (.cons (.val (.list (.list (.pair (.int .i64) (.pair (.int .i64) (.one (.list .str))))))) (.cons (.val (.int .i64)) (.cons (.val (.int .i64)) .nil)))))⟩
noncomputable def spec_l13Own.T : Tab := fun k => look k [(6, spec_l13Own.D6)]
def spec_l13Own.R : List (Nat × Ty) := [(9, .pair (.list .str) (.one (.list (.list (.pair (.int .i64) (.pair (.int .i64) (.one (.list .str))))))))]
def spec_l13Own.X : List ResultVar := [.cell 2 30]
noncomputable def spec_l13Own.K := fin spec_l13Own.E ⟨spec_l13Own.P, spec_l13Own.R, fun _ _ => none⟩ spec_l13Own.X spec_l13Own.P.len 0
noncomputable def spec_l13Own.l6 (t2 : (List ByteArray) × List (List (Int × Int × List ByteArray))) (out : (List ByteArray) × List (List (Int × Int × List ByteArray))) (t11 : List (List (Int × Int × List ByteArray))) (t12 : Int) (t13 : Int) : Option (((List ByteArray) × List (List (Int × Int × List ByteArray)))) := fixP spec_l13Own.E spec_l13Own.T spec_l13Own.C spec_l13Own.K 6 spec_l13Own.D6 (t2, out, t11, t12, t13)
noncomputable def spec_l13Own.f (s : (List ByteArray) × List (List (Int × Int × List ByteArray))) : Option (((List ByteArray) × List (List (Int × Int × List ByteArray)))) := Fn spec_l13Own.E spec_l13Own.T spec_l13Own.C spec_l13Own.P spec_l13Own.R spec_l13Own.X s
theorem spec_l13Own.l6_eq (t2 : (List ByteArray) × List (List (Int × Int × List ByteArray))) (out : (List ByteArray) × List (List (Int × Int × List ByteArray))) (t11 : List (List (Int × Int × List ByteArray))) (t12 : Int) (t13 : Int) : spec_l13Own.l6 t2 out t11 t12 t13 =
  (bif (decide (t13 < t12)) then (bif ((decide (0 ≤ t13)) && (decide (t13 < (t11.length : Int)))) then ((spec_l13OwnH.f (t11.getD (t13).toNat ([] : List (Int × Int × List ByteArray)))).bind fun y1 =>
    bif (decide ((out.2.length + [y1].length) ≤ room 24)) then (spec_l13Own.l6 (t2.1, t2.2) (out.1, (out.2 ++ [y1])) t11 t12 (w64 (t13 + 1))) else none) else none) else (some (out.1, out.2))) :=
  (fixP_eq spec_l13Own.E spec_l13Own.T spec_l13Own.C spec_l13Own.K 6 spec_l13Own.D6 (t2, out, t11, t12, t13)).trans (by kernel_rfl)
theorem spec_l13Own.f_eq (s : (List ByteArray) × List (List (Int × Int × List ByteArray))) : spec_l13Own.f s =
  ((spec_l1OwnT.f s.1).bind fun y1 =>
  spec_l13Own.l6 (([] : List ByteArray), ([] : List (List (Int × Int × List ByteArray)))) (y1, ([] : List (List (Int × Int × List ByteArray)))) s.2 (s.2.length : Int) 0) := by kernel_rfl
noncomputable def spec_l13Own.S : Abs.Sum := ⟨spec_l13Own.P, spec_l13Own.R, fun _ => Fn spec_l13Own.E spec_l13Own.T spec_l13Own.C spec_l13Own.P spec_l13Own.R spec_l13Own.X⟩
theorem spec_l13Own.meets : Meets Try.prog 87 spec_l13Own.S := meets_tab (S := spec_l13Own.U) tabOk_all (AllMeets.cons spec_l1OwnT.meets (AllMeets.cons spec_l13OwnH.meets AllMeets.nil)) (AllStill.cons (fun _ _ _ => rfl) (AllStill.cons (fun _ _ _ => rfl) AllStill.nil)) follows (by kernel_rfl : Try.prog.funcs[87]? = some Try.f87) (by kernel_rfl) (by kernel_rfl) (by kernel_rfl)
noncomputable def spec_AddText.C : Code := Try.f12.body.getD .skip
def spec_AddText.P : Par := (.cons (.val (.pair (.list .str) (.one (.list (.list (.pair (.int .i64) (.pair (.int .i64) (.one (.list .str))))))))) (.cons (.val (.list .str)) .nil))
noncomputable def spec_AddText.U : SumTab := [(83, [], spec_l13Good.S), (84, [], spec_l1Good.S), (86, [], spec_l13At.S), (85, [], spec_DiffHunks.S), (87, [], spec_l13Own.S)]
noncomputable def spec_AddText.E : Env := mkEnv TY AR spec_AddText.U
def spec_AddText.D7 : CutD := ⟨[1, 2, 4], (.cons (.val (.list .str)) (.cons (.box 0 (.pair (.list .str) (.one (.list (.list (.pair (.int .i64) (.pair (.int .i64) (.one (.list .str))))))))) (.cons (.box 9 (.pair (.list .str) (.one (.list (.list (.pair (.int .i64) (.pair (.int .i64) (.one (.list .str))))))))) .nil)))⟩
noncomputable def spec_AddText.T : Tab := fun k => look k [(7, spec_AddText.D7)]
def spec_AddText.R : List (Nat × Ty) := [(9, .pair (.list .str) (.one (.list (.list (.pair (.int .i64) (.pair (.int .i64) (.one (.list .str)))))))), (0, .bool)]
def spec_AddText.X : List ResultVar := [.cell 4 30, .tmp 5]
noncomputable def spec_AddText.K := fin spec_AddText.E ⟨spec_AddText.P, spec_AddText.R, fun _ _ => none⟩ spec_AddText.X spec_AddText.P.len 0
noncomputable def spec_AddText.l7 (l : List ByteArray) (s : (List ByteArray) × List (List (Int × Int × List ByteArray))) (t4 : (List ByteArray) × List (List (Int × Int × List ByteArray))) : Option (((List ByteArray) × List (List (Int × Int × List ByteArray))) × Bool) := fixP spec_AddText.E spec_AddText.T spec_AddText.C spec_AddText.K 7 spec_AddText.D7 (l, s, t4)
noncomputable def spec_AddText.f (s : (List ByteArray) × List (List (Int × Int × List ByteArray))) (l : List ByteArray) : Option (((List ByteArray) × List (List (Int × Int × List ByteArray))) × Bool) := Fn spec_AddText.E spec_AddText.T spec_AddText.C spec_AddText.P spec_AddText.R spec_AddText.X (s, l)
theorem spec_AddText.l7_eq (l : List ByteArray) (s : (List ByteArray) × List (List (Int × Int × List ByteArray))) (t4 : (List ByteArray) × List (List (Int × Int × List ByteArray))) : spec_AddText.l7 l s t4 =
  ((spec_l13At.f s (s.2.length : Int)).bind fun y1 =>
  (spec_DiffHunks.f y1 l).bind fun y2 =>
  bif (!y2.2) then (some ((([] : List ByteArray), ([] : List (List (Int × Int × List ByteArray)))), false)) else
  ((spec_l13Own.f s).bind fun y3 =>
   bif (decide ((y3.2.length + [y2.1].length) ≤ room 24)) then (some ((y3.1, (y3.2 ++ [y2.1])), true)) else none)) :=
  (fixP_eq spec_AddText.E spec_AddText.T spec_AddText.C spec_AddText.K 7 spec_AddText.D7 (l, s, t4)).trans (by kernel_rfl)
theorem spec_AddText.f_eq (s : (List ByteArray) × List (List (Int × Int × List ByteArray))) (l : List ByteArray) : spec_AddText.f s l =
  ((spec_l13Good.f s).bind fun y1 =>
  bif (!y1) then (some ((([] : List ByteArray), ([] : List (List (Int × Int × List ByteArray)))), false)) else
  ((spec_l1Good.f l).bind fun y2 =>
   bif (!y2) then (some ((([] : List ByteArray), ([] : List (List (Int × Int × List ByteArray)))), false)) else
   (bif (decide ((s.2.length : Int) = 7)) then (some ((([] : List ByteArray), ([] : List (List (Int × Int × List ByteArray)))), false)) else
    (spec_AddText.l7 l s (([] : List ByteArray), ([] : List (List (Int × Int × List ByteArray)))))))) := by kernel_rfl
noncomputable def spec_AddText.S : Abs.Sum := ⟨spec_AddText.P, spec_AddText.R, fun _ => Fn spec_AddText.E spec_AddText.T spec_AddText.C spec_AddText.P spec_AddText.R spec_AddText.X⟩
theorem spec_AddText.meets : Meets Try.prog 12 spec_AddText.S := meets_tab (S := spec_AddText.U) tabOk_all (AllMeets.cons spec_l13Good.meets (AllMeets.cons spec_l1Good.meets (AllMeets.cons spec_l13At.meets (AllMeets.cons spec_DiffHunks.meets (AllMeets.cons spec_l13Own.meets AllMeets.nil))))) (AllStill.cons (fun _ _ _ => rfl) (AllStill.cons (fun _ _ _ => rfl) (AllStill.cons (fun _ _ _ => rfl) (AllStill.cons (fun _ _ _ => rfl) (AllStill.cons (fun _ _ _ => rfl) AllStill.nil))))) follows (by kernel_rfl : Try.prog.funcs[12]? = some Try.f12) (by kernel_rfl) (by kernel_rfl) (by kernel_rfl)
noncomputable def impl_in.C : Code := Try.f98.body.getD .skip
def impl_in.P : Par := (.cons (.val (.int .i64)) (.cons (.val (.int .i64)) (.cons (.val (.int .i64)) .nil)))
noncomputable def impl_in.U : SumTab := []
noncomputable def impl_in.E : Env := mkEnv TY AR impl_in.U
noncomputable def impl_in.T : Tab := fun k => look k []
def impl_in.R : List (Nat × Ty) := [(0, .bool)]
def impl_in.X : List ResultVar := [.tmp 6]
noncomputable def impl_in.f (n : Int) (low : Int) (high : Int) : Option (Bool) := Fn impl_in.E impl_in.T impl_in.C impl_in.P impl_in.R impl_in.X (n, low, high)
theorem impl_in.f_eq (n : Int) (low : Int) (high : Int) : impl_in.f n low high =
  (bif (decide (n ≥ low)) then (some (decide (n ≤ high))) else (some false)) := by kernel_rfl
noncomputable def impl_in.S : Abs.Sum := ⟨impl_in.P, impl_in.R, fun _ => Fn impl_in.E impl_in.T impl_in.C impl_in.P impl_in.R impl_in.X⟩
theorem impl_in.meets : Meets Try.prog 98 impl_in.S := meets_tab (S := impl_in.U) tabOk_all AllMeets.nil AllStill.nil follows (by kernel_rfl : Try.prog.funcs[98]? = some Try.f98) (by kernel_rfl) (by kernel_rfl) (by kernel_rfl)
noncomputable def impl_isLine.C : Code := Try.f172.body.getD .skip
def impl_isLine.P : Par := (.cons (.val .str) .nil)
noncomputable def impl_isLine.U : SumTab := [(98, [], impl_in.S), (211, [], strings_Contains.S)]
noncomputable def impl_isLine.E : Env := mkEnv TY AR impl_isLine.U
noncomputable def impl_isLine.T : Tab := fun k => look k []
def impl_isLine.R : List (Nat × Ty) := [(0, .bool)]
def impl_isLine.X : List ResultVar := [.tmp 2]
noncomputable def impl_isLine.f (line : ByteArray) : Option (Bool) := Fn impl_isLine.E impl_isLine.T impl_isLine.C impl_isLine.P impl_isLine.R impl_isLine.X line
theorem impl_isLine.f_eq (line : ByteArray) : impl_isLine.f line =
  ((impl_in.f (line.size : Int) 1 30).bind fun y1 =>
  bif y1 then (bif ((decide (0 ≤ (w64 ((line.size : Int) - 1)))) && (decide ((w64 ((line.size : Int) - 1)) ≤ (line.size : Int)))) then ((strings_Contains.f (line.extract 0 ((w64 ((line.size : Int) - 1))).toNat) (⟨#[10]⟩ : ByteArray)).bind fun y2 =>
    some (!y2)) else none) else (some false)) := by kernel_rfl
noncomputable def impl_isLine.S : Abs.Sum := ⟨impl_isLine.P, impl_isLine.R, fun _ => Fn impl_isLine.E impl_isLine.T impl_isLine.C impl_isLine.P impl_isLine.R impl_isLine.X⟩
theorem impl_isLine.meets : Meets Try.prog 172 impl_isLine.S := meets_tab (S := impl_isLine.U) tabOk_all (AllMeets.cons impl_in.meets (AllMeets.cons strings_Contains.meets AllMeets.nil)) (AllStill.cons (fun _ _ _ => rfl) (AllStill.cons (fun _ _ _ => rfl) AllStill.nil)) follows (by kernel_rfl : Try.prog.funcs[172]? = some Try.f172) (by kernel_rfl) (by kernel_rfl) (by kernel_rfl)
noncomputable def impl_areLines_1.C : Code := Try.f218.body.getD .skip
def impl_areLines_1.P : Par := (.cons (.val .str) .nil)
noncomputable def impl_areLines_1.U : SumTab := [(172, [], impl_isLine.S)]
noncomputable def impl_areLines_1.E : Env := mkEnv TY AR impl_areLines_1.U
noncomputable def impl_areLines_1.T : Tab := fun k => look k []
def impl_areLines_1.R : List (Nat × Ty) := [(0, .bool)]
def impl_areLines_1.X : List ResultVar := [.tmp 2]
noncomputable def impl_areLines_1.f (line : ByteArray) : Option (Bool) := Fn impl_areLines_1.E impl_areLines_1.T impl_areLines_1.C impl_areLines_1.P impl_areLines_1.R impl_areLines_1.X line
theorem impl_areLines_1.f_eq (line : ByteArray) : impl_areLines_1.f line =
  ((impl_isLine.f line).bind fun y1 =>
  some (!y1)) := by kernel_rfl
noncomputable def impl_areLines_1.S : Abs.Sum := ⟨impl_areLines_1.P, impl_areLines_1.R, fun _ => Fn impl_areLines_1.E impl_areLines_1.T impl_areLines_1.C impl_areLines_1.P impl_areLines_1.R impl_areLines_1.X⟩
theorem impl_areLines_1.meets : Meets Try.prog 218 impl_areLines_1.S := meets_tab (S := impl_areLines_1.U) tabOk_all (AllMeets.cons impl_isLine.meets AllMeets.nil) (AllStill.cons (fun _ _ _ => rfl) AllStill.nil) follows (by kernel_rfl : Try.prog.funcs[218]? = some Try.f218) (by kernel_rfl) (by kernel_rfl) (by kernel_rfl)
noncomputable def slices_IndexFunc_Lstring_string__impl_areLines_1.C : Code := Try.f233.body.getD .skip
def slices_IndexFunc_Lstring_string__impl_areLines_1.P : Par := (.cons (.val (.list .str)) (.cons (.fn 218 .nil) .nil))
noncomputable def slices_IndexFunc_Lstring_string__impl_areLines_1.U : SumTab := [(218, [], impl_areLines_1.S)]
noncomputable def slices_IndexFunc_Lstring_string__impl_areLines_1.E : Env := mkEnv TY AR slices_IndexFunc_Lstring_string__impl_areLines_1.U
def slices_IndexFunc_Lstring_string__impl_areLines_1.D4 : CutD := ⟨[0, 1, 7, 8], (.cons (.val (.list .str)) (.cons (.fn 218 .nil) (.cons (.val (.int .i64)) (.cons (.val (.int .i64)) .nil))))⟩
noncomputable def slices_IndexFunc_Lstring_string__impl_areLines_1.T : Tab := fun k => look k [(4, slices_IndexFunc_Lstring_string__impl_areLines_1.D4)]
def slices_IndexFunc_Lstring_string__impl_areLines_1.R : List (Nat × Ty) := [(0, .int .i64)]
def slices_IndexFunc_Lstring_string__impl_areLines_1.X : List ResultVar := [.tmp 4]
noncomputable def slices_IndexFunc_Lstring_string__impl_areLines_1.K := fin slices_IndexFunc_Lstring_string__impl_areLines_1.E ⟨slices_IndexFunc_Lstring_string__impl_areLines_1.P, slices_IndexFunc_Lstring_string__impl_areLines_1.R, fun _ _ => none⟩ slices_IndexFunc_Lstring_string__impl_areLines_1.X slices_IndexFunc_Lstring_string__impl_areLines_1.P.len 0
noncomputable def slices_IndexFunc_Lstring_string__impl_areLines_1.l4 (s : List ByteArray) (t7 : Int) (t8 : Int) : Option (Int) := fixP slices_IndexFunc_Lstring_string__impl_areLines_1.E slices_IndexFunc_Lstring_string__impl_areLines_1.T slices_IndexFunc_Lstring_string__impl_areLines_1.C slices_IndexFunc_Lstring_string__impl_areLines_1.K 4 slices_IndexFunc_Lstring_string__impl_areLines_1.D4 (s, t7, t8)
noncomputable def slices_IndexFunc_Lstring_string__impl_areLines_1.f (s : List ByteArray) : Option (Int) := Fn slices_IndexFunc_Lstring_string__impl_areLines_1.E slices_IndexFunc_Lstring_string__impl_areLines_1.T slices_IndexFunc_Lstring_string__impl_areLines_1.C slices_IndexFunc_Lstring_string__impl_areLines_1.P slices_IndexFunc_Lstring_string__impl_areLines_1.R slices_IndexFunc_Lstring_string__impl_areLines_1.X s
theorem slices_IndexFunc_Lstring_string__impl_areLines_1.l4_eq (s : List ByteArray) (t7 : Int) (t8 : Int) : slices_IndexFunc_Lstring_string__impl_areLines_1.l4 s t7 t8 =
  (bif (decide (t8 < t7)) then (bif ((decide (0 ≤ t8)) && (decide (t8 < (s.length : Int)))) then ((impl_areLines_1.f (s.getD (t8).toNat em)).bind fun y1 =>
    bif y1 then (some t8) else
    (slices_IndexFunc_Lstring_string__impl_areLines_1.l4 s t7 (w64 (t8 + 1)))) else none) else (some (-1))) :=
  (fixP_eq slices_IndexFunc_Lstring_string__impl_areLines_1.E slices_IndexFunc_Lstring_string__impl_areLines_1.T slices_IndexFunc_Lstring_string__impl_areLines_1.C slices_IndexFunc_Lstring_string__impl_areLines_1.K 4 slices_IndexFunc_Lstring_string__impl_areLines_1.D4 (s, t7, t8)).trans (by kernel_rfl)
theorem slices_IndexFunc_Lstring_string__impl_areLines_1.f_eq (s : List ByteArray) : slices_IndexFunc_Lstring_string__impl_areLines_1.f s =
  (slices_IndexFunc_Lstring_string__impl_areLines_1.l4 s (s.length : Int) 0) := by kernel_rfl
noncomputable def slices_IndexFunc_Lstring_string__impl_areLines_1.S : Abs.Sum := ⟨slices_IndexFunc_Lstring_string__impl_areLines_1.P, slices_IndexFunc_Lstring_string__impl_areLines_1.R, fun _ => Fn slices_IndexFunc_Lstring_string__impl_areLines_1.E slices_IndexFunc_Lstring_string__impl_areLines_1.T slices_IndexFunc_Lstring_string__impl_areLines_1.C slices_IndexFunc_Lstring_string__impl_areLines_1.P slices_IndexFunc_Lstring_string__impl_areLines_1.R slices_IndexFunc_Lstring_string__impl_areLines_1.X⟩
theorem slices_IndexFunc_Lstring_string__impl_areLines_1.meets : Meets Try.prog 233 slices_IndexFunc_Lstring_string__impl_areLines_1.S := meets_tab (S := slices_IndexFunc_Lstring_string__impl_areLines_1.U) tabOk_all (AllMeets.cons impl_areLines_1.meets AllMeets.nil) (AllStill.cons (fun _ _ _ => rfl) AllStill.nil) follows (by kernel_rfl : Try.prog.funcs[233]? = some Try.f233) (by kernel_rfl) (by kernel_rfl) (by kernel_rfl)
noncomputable def slices_ContainsFunc_Lstring_string__impl_areLines_1.C : Code := Try.f217.body.getD .skip
def slices_ContainsFunc_Lstring_string__impl_areLines_1.P : Par := (.cons (.val (.list .str)) (.cons (.fn 218 .nil) .nil))
noncomputable def slices_ContainsFunc_Lstring_string__impl_areLines_1.U : SumTab := [(233, [218], slices_IndexFunc_Lstring_string__impl_areLines_1.S)]
noncomputable def slices_ContainsFunc_Lstring_string__impl_areLines_1.E : Env := mkEnv TY AR slices_ContainsFunc_Lstring_string__impl_areLines_1.U
noncomputable def slices_ContainsFunc_Lstring_string__impl_areLines_1.T : Tab := fun k => look k []
def slices_ContainsFunc_Lstring_string__impl_areLines_1.R : List (Nat × Ty) := [(0, .bool)]
def slices_ContainsFunc_Lstring_string__impl_areLines_1.X : List ResultVar := [.tmp 4]
noncomputable def slices_ContainsFunc_Lstring_string__impl_areLines_1.f (s : List ByteArray) : Option (Bool) := Fn slices_ContainsFunc_Lstring_string__impl_areLines_1.E slices_ContainsFunc_Lstring_string__impl_areLines_1.T slices_ContainsFunc_Lstring_string__impl_areLines_1.C slices_ContainsFunc_Lstring_string__impl_areLines_1.P slices_ContainsFunc_Lstring_string__impl_areLines_1.R slices_ContainsFunc_Lstring_string__impl_areLines_1.X s
theorem slices_ContainsFunc_Lstring_string__impl_areLines_1.f_eq (s : List ByteArray) : slices_ContainsFunc_Lstring_string__impl_areLines_1.f s =
  ((slices_IndexFunc_Lstring_string__impl_areLines_1.f s).bind fun y1 =>
  some (decide (y1 ≥ 0))) := by kernel_rfl
noncomputable def slices_ContainsFunc_Lstring_string__impl_areLines_1.S : Abs.Sum := ⟨slices_ContainsFunc_Lstring_string__impl_areLines_1.P, slices_ContainsFunc_Lstring_string__impl_areLines_1.R, fun _ => Fn slices_ContainsFunc_Lstring_string__impl_areLines_1.E slices_ContainsFunc_Lstring_string__impl_areLines_1.T slices_ContainsFunc_Lstring_string__impl_areLines_1.C slices_ContainsFunc_Lstring_string__impl_areLines_1.P slices_ContainsFunc_Lstring_string__impl_areLines_1.R slices_ContainsFunc_Lstring_string__impl_areLines_1.X⟩
theorem slices_ContainsFunc_Lstring_string__impl_areLines_1.meets : Meets Try.prog 217 slices_ContainsFunc_Lstring_string__impl_areLines_1.S := meets_tab (S := slices_ContainsFunc_Lstring_string__impl_areLines_1.U) tabOk_all (AllMeets.cons slices_IndexFunc_Lstring_string__impl_areLines_1.meets AllMeets.nil) (AllStill.cons (fun _ _ _ => rfl) AllStill.nil) follows (by kernel_rfl : Try.prog.funcs[217]? = some Try.f217) (by kernel_rfl) (by kernel_rfl) (by kernel_rfl)
noncomputable def impl_areLines.C : Code := Try.f182.body.getD .skip
def impl_areLines.P : Par := (.cons (.val (.list .str)) .nil)
noncomputable def impl_areLines.U : SumTab := [(217, [218], slices_ContainsFunc_Lstring_string__impl_areLines_1.S)]
noncomputable def impl_areLines.E : Env := mkEnv TY AR impl_areLines.U
noncomputable def impl_areLines.T : Tab := fun k => look k []
def impl_areLines.R : List (Nat × Ty) := [(0, .bool)]
def impl_areLines.X : List ResultVar := [.tmp 2]
noncomputable def impl_areLines.f (l : List ByteArray) : Option (Bool) := Fn impl_areLines.E impl_areLines.T impl_areLines.C impl_areLines.P impl_areLines.R impl_areLines.X l
theorem impl_areLines.f_eq (l : List ByteArray) : impl_areLines.f l =
  (bif (decide ((l.length : Int) ≤ 40)) then ((slices_ContainsFunc_Lstring_string__impl_areLines_1.f l).bind fun y1 =>
   some (!y1)) else (some false)) := by kernel_rfl
noncomputable def impl_areLines.S : Abs.Sum := ⟨impl_areLines.P, impl_areLines.R, fun _ => Fn impl_areLines.E impl_areLines.T impl_areLines.C impl_areLines.P impl_areLines.R impl_areLines.X⟩
theorem impl_areLines.meets : Meets Try.prog 182 impl_areLines.S := meets_tab (S := impl_areLines.U) tabOk_all (AllMeets.cons slices_ContainsFunc_Lstring_string__impl_areLines_1.meets AllMeets.nil) (AllStill.cons (fun _ _ _ => rfl) AllStill.nil) follows (by kernel_rfl : Try.prog.funcs[182]? = some Try.f182) (by kernel_rfl) (by kernel_rfl) (by kernel_rfl)
noncomputable def internal_stringslite_HasSuffix.C : Code := Try.f234.body.getD .skip
def internal_stringslite_HasSuffix.P : Par := (.cons (.val .str) (.cons (.val .str) .nil))
noncomputable def internal_stringslite_HasSuffix.U : SumTab := []
noncomputable def internal_stringslite_HasSuffix.E : Env := mkEnv TY AR internal_stringslite_HasSuffix.U
noncomputable def internal_stringslite_HasSuffix.T : Tab := fun k => look k []
def internal_stringslite_HasSuffix.R : List (Nat × Ty) := [(0, .bool)]
def internal_stringslite_HasSuffix.X : List ResultVar := [.tmp 4]
noncomputable def internal_stringslite_HasSuffix.f (s : ByteArray) (suffix : ByteArray) : Option (Bool) := Fn internal_stringslite_HasSuffix.E internal_stringslite_HasSuffix.T internal_stringslite_HasSuffix.C internal_stringslite_HasSuffix.P internal_stringslite_HasSuffix.R internal_stringslite_HasSuffix.X (s, suffix)
theorem internal_stringslite_HasSuffix.f_eq (s : ByteArray) (suffix : ByteArray) : internal_stringslite_HasSuffix.f s suffix =
  (bif (decide ((s.size : Int) ≥ (suffix.size : Int))) then (bif ((decide (0 ≤ (w64 ((s.size : Int) - (suffix.size : Int))))) && (decide ((w64 ((s.size : Int) - (suffix.size : Int))) ≤ (s.size : Int)))) then (some ((s.extract ((w64 ((s.size : Int) - (suffix.size : Int)))).toNat s.size).toList == suffix.toList)) else none) else (some false)) := by kernel_rfl
noncomputable def internal_stringslite_HasSuffix.S : Abs.Sum := ⟨internal_stringslite_HasSuffix.P, internal_stringslite_HasSuffix.R, fun _ => Fn internal_stringslite_HasSuffix.E internal_stringslite_HasSuffix.T internal_stringslite_HasSuffix.C internal_stringslite_HasSuffix.P internal_stringslite_HasSuffix.R internal_stringslite_HasSuffix.X⟩
theorem internal_stringslite_HasSuffix.meets : Meets Try.prog 234 internal_stringslite_HasSuffix.S := meets_tab (S := internal_stringslite_HasSuffix.U) tabOk_all AllMeets.nil AllStill.nil follows (by kernel_rfl : Try.prog.funcs[234]? = some Try.f234) (by kernel_rfl) (by kernel_rfl) (by kernel_rfl)
noncomputable def strings_HasSuffix.C : Code := Try.f219.body.getD .skip
def strings_HasSuffix.P : Par := (.cons (.val .str) (.cons (.val .str) .nil))
noncomputable def strings_HasSuffix.U : SumTab := [(234, [], internal_stringslite_HasSuffix.S)]
noncomputable def strings_HasSuffix.E : Env := mkEnv TY AR strings_HasSuffix.U
noncomputable def strings_HasSuffix.T : Tab := fun k => look k []
def strings_HasSuffix.R : List (Nat × Ty) := [(0, .bool)]
def strings_HasSuffix.X : List ResultVar := [.tmp 4]
noncomputable def strings_HasSuffix.f (s : ByteArray) (suffix : ByteArray) : Option (Bool) := Fn strings_HasSuffix.E strings_HasSuffix.T strings_HasSuffix.C strings_HasSuffix.P strings_HasSuffix.R strings_HasSuffix.X (s, suffix)
theorem strings_HasSuffix.f_eq (s : ByteArray) (suffix : ByteArray) : strings_HasSuffix.f s suffix =
  ((internal_stringslite_HasSuffix.f s suffix).bind fun y1 =>
  some y1) := by kernel_rfl
noncomputable def strings_HasSuffix.S : Abs.Sum := ⟨strings_HasSuffix.P, strings_HasSuffix.R, fun _ => Fn strings_HasSuffix.E strings_HasSuffix.T strings_HasSuffix.C strings_HasSuffix.P strings_HasSuffix.R strings_HasSuffix.X⟩
theorem strings_HasSuffix.meets : Meets Try.prog 219 strings_HasSuffix.S := meets_tab (S := strings_HasSuffix.U) tabOk_all (AllMeets.cons internal_stringslite_HasSuffix.meets AllMeets.nil) (AllStill.cons (fun _ _ _ => rfl) AllStill.nil) follows (by kernel_rfl : Try.prog.funcs[219]? = some Try.f219) (by kernel_rfl) (by kernel_rfl) (by kernel_rfl)
noncomputable def impl_isEnded.C : Code := Try.f183.body.getD .skip
def impl_isEnded.P : Par := (.cons (.val .str) .nil)
noncomputable def impl_isEnded.U : SumTab := [(219, [], strings_HasSuffix.S)]
noncomputable def impl_isEnded.E : Env := mkEnv TY AR impl_isEnded.U
noncomputable def impl_isEnded.T : Tab := fun k => look k []
def impl_isEnded.R : List (Nat × Ty) := [(0, .bool)]
def impl_isEnded.X : List ResultVar := [.tmp 2]
noncomputable def impl_isEnded.f (line : ByteArray) : Option (Bool) := Fn impl_isEnded.E impl_isEnded.T impl_isEnded.C impl_isEnded.P impl_isEnded.R impl_isEnded.X line
theorem impl_isEnded.f_eq (line : ByteArray) : impl_isEnded.f line =
  ((strings_HasSuffix.f line (⟨#[10]⟩ : ByteArray)).bind fun y1 =>
  some y1) := by kernel_rfl
noncomputable def impl_isEnded.S : Abs.Sum := ⟨impl_isEnded.P, impl_isEnded.R, fun _ => Fn impl_isEnded.E impl_isEnded.T impl_isEnded.C impl_isEnded.P impl_isEnded.R impl_isEnded.X⟩
theorem impl_isEnded.meets : Meets Try.prog 183 impl_isEnded.S := meets_tab (S := impl_isEnded.U) tabOk_all (AllMeets.cons strings_HasSuffix.meets AllMeets.nil) (AllStill.cons (fun _ _ _ => rfl) AllStill.nil) follows (by kernel_rfl : Try.prog.funcs[183]? = some Try.f183) (by kernel_rfl) (by kernel_rfl) (by kernel_rfl)
noncomputable def impl_goodLines.C : Code := Try.f127.body.getD .skip
def impl_goodLines.P : Par := (.cons (.val (.list .str)) .nil)
noncomputable def impl_goodLines.U : SumTab := [(182, [], impl_areLines.S), (183, [], impl_isEnded.S)]
noncomputable def impl_goodLines.E : Env := mkEnv TY AR impl_goodLines.U
def impl_goodLines.D8 : CutD := ⟨[0, 8, 9, 10], (.cons (.val (.list .str)) (.cons (.val (.list .str)) (.cons (.val (.int .i64)) (.cons (.val (.int .i64)) .nil))))⟩
noncomputable def impl_goodLines.T : Tab := fun k => look k [(8, impl_goodLines.D8)]
def impl_goodLines.R : List (Nat × Ty) := [(0, .bool)]
def impl_goodLines.X : List ResultVar := [.tmp 2]
noncomputable def impl_goodLines.K := fin impl_goodLines.E ⟨impl_goodLines.P, impl_goodLines.R, fun _ _ => none⟩ impl_goodLines.X impl_goodLines.P.len 0
noncomputable def impl_goodLines.l8 (l : List ByteArray) (t8 : List ByteArray) (t9 : Int) (t10 : Int) : Option (Bool) := fixP impl_goodLines.E impl_goodLines.T impl_goodLines.C impl_goodLines.K 8 impl_goodLines.D8 (l, t8, t9, t10)
noncomputable def impl_goodLines.f (l : List ByteArray) : Option (Bool) := Fn impl_goodLines.E impl_goodLines.T impl_goodLines.C impl_goodLines.P impl_goodLines.R impl_goodLines.X l
theorem impl_goodLines.l8_eq (l : List ByteArray) (t8 : List ByteArray) (t9 : Int) (t10 : Int) : impl_goodLines.l8 l t8 t9 t10 =
  (bif (decide (t10 < t9)) then (bif ((decide (0 ≤ t10)) && (decide (t10 < (t8.length : Int)))) then (bif (decide (t10 < (w64 ((l.length : Int) - 1)))) then ((impl_isEnded.f (t8.getD (t10).toNat em)).bind fun y1 =>
     bif (!y1) then (some false) else
     (impl_goodLines.l8 l t8 t9 (w64 (t10 + 1)))) else
    (impl_goodLines.l8 l t8 t9 (w64 (t10 + 1)))) else none) else (some true)) :=
  (fixP_eq impl_goodLines.E impl_goodLines.T impl_goodLines.C impl_goodLines.K 8 impl_goodLines.D8 (l, t8, t9, t10)).trans (by kernel_rfl)
theorem impl_goodLines.f_eq (l : List ByteArray) : impl_goodLines.f l =
  ((impl_areLines.f l).bind fun y1 =>
  bif (!y1) then (some false) else
  (impl_goodLines.l8 l l (l.length : Int) 0)) := by kernel_rfl
noncomputable def impl_goodLines.S : Abs.Sum := ⟨impl_goodLines.P, impl_goodLines.R, fun _ => Fn impl_goodLines.E impl_goodLines.T impl_goodLines.C impl_goodLines.P impl_goodLines.R impl_goodLines.X⟩
theorem impl_goodLines.meets : Meets Try.prog 127 impl_goodLines.S := meets_tab (S := impl_goodLines.U) tabOk_all (AllMeets.cons impl_areLines.meets (AllMeets.cons impl_isEnded.meets AllMeets.nil)) (AllStill.cons (fun _ _ _ => rfl) (AllStill.cons (fun _ _ _ => rfl) AllStill.nil)) follows (by kernel_rfl : Try.prog.funcs[127]? = some Try.f127) (by kernel_rfl) (by kernel_rfl) (by kernel_rfl)
noncomputable def impl_goodHunks.C : Code := Try.f167.body.getD .skip
def impl_goodHunks.P : Par := (.cons (.val (.int .i64)) (.cons (.val (.list (.pair (.int .i64) (.pair (.int .i64) (.one (.list .str)))))) .nil))
noncomputable def impl_goodHunks.U : SumTab := [(98, [], impl_in.S), (182, [], impl_areLines.S)]
noncomputable def impl_goodHunks.E : Env := mkEnv TY AR impl_goodHunks.U
def impl_goodHunks.D7 : CutD := ⟨[0, 1], (.cons (.val (.int .i64)) (.cons (.val (.list (.pair (.int .i64) (.pair (.int .i64) (.one (.list .str)))))) .nil))⟩
def impl_goodHunks.D8 : CutD := ⟨[0, 1, 15, 16, 17], (.cons (.val (.int .i64)) (.cons (.val (.list (.pair (.int .i64) (.pair (.int .i64) (.one (.list .str)))))) (.cons (.val (.list (.pair (.int .i64) (.pair (.int .i64) (.one (.list .str)))))) (.cons (.val (.int .i64)) (.cons (.val (.int .i64)) .nil)))))⟩
def impl_goodHunks.D17 : CutD := ⟨[0, 1, 5, 6, 15, 16, 17], (.cons (.val (.int .i64)) (.cons (.val (.list (.pair (.int .i64) (.pair (.int .i64) (.one (.list .str)))))) (.cons (.val (.int .i64)) (.cons (.box 0 (.pair (.int .i64) (.pair (.int .i64) (.one (.list .str))))) (.cons (.val (.list (.pair (.int .i64) (.pair (.int .i64) (.one (.list .str)))))) (.cons (.val (.int .i64)) (.cons (.val (.int .i64)) .nil)))))))⟩
noncomputable def impl_goodHunks.T : Tab := fun k => look k [(7, impl_goodHunks.D7), (8, impl_goodHunks.D8), (17, impl_goodHunks.D17)]
def impl_goodHunks.R : List (Nat × Ty) := [(0, .bool)]
def impl_goodHunks.X : List ResultVar := [.tmp 4]
noncomputable def impl_goodHunks.K := fin impl_goodHunks.E ⟨impl_goodHunks.P, impl_goodHunks.R, fun _ _ => none⟩ impl_goodHunks.X impl_goodHunks.P.len 0
noncomputable def impl_goodHunks.l7 (many : Int) (h : List (Int × Int × List ByteArray)) : Option (Bool) := fixP impl_goodHunks.E impl_goodHunks.T impl_goodHunks.C impl_goodHunks.K 7 impl_goodHunks.D7 (many, h)
noncomputable def impl_goodHunks.l8 (many : Int) (h : List (Int × Int × List ByteArray)) (t15 : List (Int × Int × List ByteArray)) (t16 : Int) (t17 : Int) : Option (Bool) := fixP impl_goodHunks.E impl_goodHunks.T impl_goodHunks.C impl_goodHunks.K 8 impl_goodHunks.D8 (many, h, t15, t16, t17)
noncomputable def impl_goodHunks.l17 (many : Int) (h : List (Int × Int × List ByteArray)) (i : Int) (x : Int × Int × List ByteArray) (t15 : List (Int × Int × List ByteArray)) (t16 : Int) (t17 : Int) : Option (Bool) := fixP impl_goodHunks.E impl_goodHunks.T impl_goodHunks.C impl_goodHunks.K 17 impl_goodHunks.D17 (many, h, i, x, t15, t16, t17)
noncomputable def impl_goodHunks.f (many : Int) (h : List (Int × Int × List ByteArray)) : Option (Bool) := Fn impl_goodHunks.E impl_goodHunks.T impl_goodHunks.C impl_goodHunks.P impl_goodHunks.R impl_goodHunks.X (many, h)
theorem impl_goodHunks.l7_eq (many : Int) (h : List (Int × Int × List ByteArray)) : impl_goodHunks.l7 many h =
  (impl_goodHunks.l8 many h h (h.length : Int) 0) :=
  (fixP_eq impl_goodHunks.E impl_goodHunks.T impl_goodHunks.C impl_goodHunks.K 7 impl_goodHunks.D7 (many, h)).trans (by kernel_rfl)
theorem impl_goodHunks.l8_eq (many : Int) (h : List (Int × Int × List ByteArray)) (t15 : List (Int × Int × List ByteArray)) (t16 : Int) (t17 : Int) : impl_goodHunks.l8 many h t15 t16 t17 =
  (bif (decide (t17 < t16)) then (bif ((decide (0 ≤ t17)) && (decide (t17 < (t15.length : Int)))) then ((impl_in.f (t15.getD (t17).toNat (0, 0, ([] : List ByteArray))).1 0 many).bind fun y1 =>
    bif (!y1) then (some false) else
    ((impl_in.f (t15.getD (t17).toNat (0, 0, ([] : List ByteArray))).2.1 0 (w64 (many - (t15.getD (t17).toNat (0, 0, ([] : List ByteArray))).1))).bind fun y2 =>
     bif (!y2) then (some false) else
     ((impl_areLines.f (t15.getD (t17).toNat (0, 0, ([] : List ByteArray))).2.2).bind fun y3 =>
      bif (!y3) then (some false) else
      (bif (decide ((t15.getD (t17).toNat (0, 0, ([] : List ByteArray))).2.1 = 0)) then (bif (decide (((t15.getD (t17).toNat (0, 0, ([] : List ByteArray))).2.2.length : Int) = 0)) then (some false) else
        (impl_goodHunks.l17 many h t17 (t15.getD (t17).toNat (0, 0, ([] : List ByteArray))) t15 t16 t17)) else
       (impl_goodHunks.l17 many h t17 (t15.getD (t17).toNat (0, 0, ([] : List ByteArray))) t15 t16 t17))))) else none) else (some true)) :=
  (fixP_eq impl_goodHunks.E impl_goodHunks.T impl_goodHunks.C impl_goodHunks.K 8 impl_goodHunks.D8 (many, h, t15, t16, t17)).trans (by kernel_rfl)
theorem impl_goodHunks.l17_eq (many : Int) (h : List (Int × Int × List ByteArray)) (i : Int) (x : Int × Int × List ByteArray) (t15 : List (Int × Int × List ByteArray)) (t16 : Int) (t17 : Int) : impl_goodHunks.l17 many h i x t15 t16 t17 =
  (bif (decide (i > 0)) then (bif ((decide (0 ≤ (w64 (i - 1)))) && (decide ((w64 (i - 1)) < (h.length : Int)))) then (bif ((decide (0 ≤ (w64 (i - 1)))) && (decide ((w64 (i - 1)) < (h.length : Int)))) then (bif (decide (x.1 ≤ (w64 ((h.getD ((w64 (i - 1))).toNat (0, 0, ([] : List ByteArray))).1 + (h.getD ((w64 (i - 1))).toNat (0, 0, ([] : List ByteArray))).2.1)))) then (some false) else
     (impl_goodHunks.l8 many h t15 t16 (w64 (t17 + 1)))) else none) else none) else
  (impl_goodHunks.l8 many h t15 t16 (w64 (t17 + 1)))) :=
  (fixP_eq impl_goodHunks.E impl_goodHunks.T impl_goodHunks.C impl_goodHunks.K 17 impl_goodHunks.D17 (many, h, i, x, t15, t16, t17)).trans (by kernel_rfl)
theorem impl_goodHunks.f_eq (many : Int) (h : List (Int × Int × List ByteArray)) : impl_goodHunks.f many h =
  ((impl_in.f many 0 40).bind fun y1 =>
  bif (!y1) then (some false) else
  (bif (decide ((h.length : Int) > 20)) then (some false) else
   (impl_goodHunks.l7 many h))) := by kernel_rfl
noncomputable def impl_goodHunks.S : Abs.Sum := ⟨impl_goodHunks.P, impl_goodHunks.R, fun _ => Fn impl_goodHunks.E impl_goodHunks.T impl_goodHunks.C impl_goodHunks.P impl_goodHunks.R impl_goodHunks.X⟩
theorem impl_goodHunks.meets : Meets Try.prog 167 impl_goodHunks.S := meets_tab (S := impl_goodHunks.U) tabOk_all (AllMeets.cons impl_in.meets (AllMeets.cons impl_areLines.meets AllMeets.nil)) (AllStill.cons (fun _ _ _ => rfl) (AllStill.cons (fun _ _ _ => rfl) AllStill.nil)) follows (by kernel_rfl : Try.prog.funcs[167]? = some Try.f167) (by kernel_rfl) (by kernel_rfl) (by kernel_rfl)
noncomputable def impl_patched.C : Code := Try.f190.body.getD .skip
def impl_patched.P : Par := (.cons (.val (.list .str)) (.cons (.val (.list (.pair (.int .i64) (.pair (.int .i64) (.one (.list .str)))))) .nil))
noncomputable def impl_patched.U : SumTab := []
noncomputable def impl_patched.E : Env := mkEnv TY AR impl_patched.U
def impl_patched.D6 : CutD := ⟨[0, 5, 6, 10, 11, 12], (.cons (.val (.list .str)) (.cons (.own 9 .str) (.cons (.val (.int .i64)) (.cons (.val (.list (.pair (.int .i64) (.pair (.int .i64) (.one (.list .str)))))) (.cons (.val (.int .i64)) (.cons (.val (.int .i64)) .nil))))))⟩
noncomputable def impl_patched.T : Tab := fun k => look k [(6, impl_patched.D6)]
def impl_patched.R : List (Nat × Ty) := [(9, .list .str)]
def impl_patched.X : List ResultVar := [.tmp 4]
noncomputable def impl_patched.K := fin impl_patched.E ⟨impl_patched.P, impl_patched.R, fun _ _ => none⟩ impl_patched.X impl_patched.P.len 0
noncomputable def impl_patched.l6 (l : List ByteArray) (out : List ByteArray) (t6 : Int) (t10 : List (Int × Int × List ByteArray)) (t11 : Int) (t12 : Int) : Option ((List ByteArray)) := fixP impl_patched.E impl_patched.T impl_patched.C impl_patched.K 6 impl_patched.D6 (l, out, t6, t10, t11, t12)
noncomputable def impl_patched.f (l : List ByteArray) (h : List (Int × Int × List ByteArray)) : Option ((List ByteArray)) := Fn impl_patched.E impl_patched.T impl_patched.C impl_patched.P impl_patched.R impl_patched.X (l, h)
theorem impl_patched.l6_eq (l : List ByteArray) (out : List ByteArray) (t6 : Int) (t10 : List (Int × Int × List ByteArray)) (t11 : Int) (t12 : Int) : impl_patched.l6 l out t6 t10 t11 t12 =
  (bif (decide (t12 < t11)) then (bif ((decide (0 ≤ t12)) && (decide (t12 < (t10.length : Int)))) then (bif ((decide (0 ≤ t6)) && ((decide (t6 ≤ (t10.getD (t12).toNat (0, 0, ([] : List ByteArray))).1)) && (decide ((t10.getD (t12).toNat (0, 0, ([] : List ByteArray))).1 ≤ (l.length : Int))))) then (bif (decide ((out.length + ((l.take ((t10.getD (t12).toNat (0, 0, ([] : List ByteArray))).1).toNat).drop (t6).toNat).length) ≤ room 16)) then (bif (decide (((out ++ ((l.take ((t10.getD (t12).toNat (0, 0, ([] : List ByteArray))).1).toNat).drop (t6).toNat)).length + (t10.getD (t12).toNat (0, 0, ([] : List ByteArray))).2.2.length) ≤ room 16)) then (impl_patched.l6 l ((out ++ ((l.take ((t10.getD (t12).toNat (0, 0, ([] : List ByteArray))).1).toNat).drop (t6).toNat)) ++ (t10.getD (t12).toNat (0, 0, ([] : List ByteArray))).2.2) (w64 ((t10.getD (t12).toNat (0, 0, ([] : List ByteArray))).1 + (t10.getD (t12).toNat (0, 0, ([] : List ByteArray))).2.1)) t10 t11 (w64 (t12 + 1))) else none) else none) else none) else none) else
  (bif ((decide (0 ≤ t6)) && (decide (t6 ≤ (l.length : Int)))) then (bif (decide ((out.length + (l.drop (t6).toNat).length) ≤ room 16)) then (some (out ++ (l.drop (t6).toNat))) else none) else none)) :=
  (fixP_eq impl_patched.E impl_patched.T impl_patched.C impl_patched.K 6 impl_patched.D6 (l, out, t6, t10, t11, t12)).trans (by kernel_rfl)
theorem impl_patched.f_eq (l : List ByteArray) (h : List (Int × Int × List ByteArray)) : impl_patched.f l h =
  (impl_patched.l6 l ([] : List ByteArray) 0 h (h.length : Int) 0) := by kernel_rfl
noncomputable def impl_patched.S : Abs.Sum := ⟨impl_patched.P, impl_patched.R, fun _ => Fn impl_patched.E impl_patched.T impl_patched.C impl_patched.P impl_patched.R impl_patched.X⟩
theorem impl_patched.meets : Meets Try.prog 190 impl_patched.S := meets_tab (S := impl_patched.U) tabOk_all AllMeets.nil AllStill.nil follows (by kernel_rfl : Try.prog.funcs[190]? = some Try.f190) (by kernel_rfl) (by kernel_rfl) (by kernel_rfl)
noncomputable def impl_Patch.C : Code := Try.f136.body.getD .skip
def impl_Patch.P : Par := (.cons (.val (.list .str)) (.cons (.val (.list (.pair (.int .i64) (.pair (.int .i64) (.one (.list .str)))))) .nil))
noncomputable def impl_Patch.U : SumTab := [(127, [], impl_goodLines.S), (167, [], impl_goodHunks.S), (190, [], impl_patched.S)]
noncomputable def impl_Patch.E : Env := mkEnv TY AR impl_Patch.U
def impl_Patch.D7 : CutD := ⟨[0, 1], (.cons (.val (.list .str)) (.cons (.val (.list (.pair (.int .i64) (.pair (.int .i64) (.one (.list .str)))))) .nil))⟩
noncomputable def impl_Patch.T : Tab := fun k => look k [(7, impl_Patch.D7)]
def impl_Patch.R : List (Nat × Ty) := [(9, .list .str), (0, .bool)]
def impl_Patch.X : List ResultVar := [.tmp 4, .tmp 5]
noncomputable def impl_Patch.K := fin impl_Patch.E ⟨impl_Patch.P, impl_Patch.R, fun _ _ => none⟩ impl_Patch.X impl_Patch.P.len 0
noncomputable def impl_Patch.l7 (l : List ByteArray) (h : List (Int × Int × List ByteArray)) : Option ((List ByteArray) × Bool) := fixP impl_Patch.E impl_Patch.T impl_Patch.C impl_Patch.K 7 impl_Patch.D7 (l, h)
noncomputable def impl_Patch.f (l : List ByteArray) (h : List (Int × Int × List ByteArray)) : Option ((List ByteArray) × Bool) := Fn impl_Patch.E impl_Patch.T impl_Patch.C impl_Patch.P impl_Patch.R impl_Patch.X (l, h)
theorem impl_Patch.l7_eq (l : List ByteArray) (h : List (Int × Int × List ByteArray)) : impl_Patch.l7 l h =
  ((impl_patched.f l h).bind fun y1 =>
  (impl_goodLines.f y1).bind fun y2 =>
  bif (!y2) then (some (([] : List ByteArray), false)) else (some (y1, true))) :=
  (fixP_eq impl_Patch.E impl_Patch.T impl_Patch.C impl_Patch.K 7 impl_Patch.D7 (l, h)).trans (by kernel_rfl)
theorem impl_Patch.f_eq (l : List ByteArray) (h : List (Int × Int × List ByteArray)) : impl_Patch.f l h =
  ((impl_goodLines.f l).bind fun y1 =>
  bif (!y1) then (some (([] : List ByteArray), false)) else
  ((impl_goodHunks.f (l.length : Int) h).bind fun y2 =>
   bif (!y2) then (some (([] : List ByteArray), false)) else
   (impl_Patch.l7 l h))) := by kernel_rfl
noncomputable def impl_Patch.S : Abs.Sum := ⟨impl_Patch.P, impl_Patch.R, fun _ => Fn impl_Patch.E impl_Patch.T impl_Patch.C impl_Patch.P impl_Patch.R impl_Patch.X⟩
theorem impl_Patch.meets : Meets Try.prog 136 impl_Patch.S := meets_tab (S := impl_Patch.U) tabOk_all (AllMeets.cons impl_goodLines.meets (AllMeets.cons impl_goodHunks.meets (AllMeets.cons impl_patched.meets AllMeets.nil))) (AllStill.cons (fun _ _ _ => rfl) (AllStill.cons (fun _ _ _ => rfl) (AllStill.cons (fun _ _ _ => rfl) AllStill.nil))) follows (by kernel_rfl : Try.prog.funcs[136]? = some Try.f136) (by kernel_rfl) (by kernel_rfl) (by kernel_rfl)
noncomputable def impl_Series_texts.C : Code := Try.f89.body.getD .skip
def impl_Series_texts.P : Par := (.cons (.val (.pair (.list .str) (.one (.list (.list (.pair (.int .i64) (.pair (.int .i64) (.one (.list .str))))))))) .nil)
noncomputable def impl_Series_texts.U : SumTab := [(127, [], impl_goodLines.S), (120, [], slices_Clone_Lstring_string.S), (136, [], impl_Patch.S)]
noncomputable def impl_Series_texts.E : Env := mkEnv TY AR impl_Series_texts.U
def impl_Series_texts.D7 : CutD := ⟨[1], (.cons (.box 0 (.pair (.list .str) (.one (.list (.list (.pair (.int .i64) (.pair (.int .i64) (.one (.list .str))))))))) .nil)⟩
def impl_Series_texts.D10 : CutD := ⟨[4, 24, 25, 26], (.cons (.own 9 (.list .str)) (.cons (.val (.list (.list (.pair (.int .i64) (.pair (.int .i64) (.one (.list .str))))))) (.cons (.val (.int .i64)) (.cons (.val (.int .i64)) .nil))))⟩
noncomputable def impl_Series_texts.T : Tab := fun k => look k [(7, impl_Series_texts.D7), (10, impl_Series_texts.D10)]
def impl_Series_texts.R : List (Nat × Ty) := [(9, .list (.list .str)), (0, .bool)]
def impl_Series_texts.X : List ResultVar := [.tmp 2, .tmp 3]
noncomputable def impl_Series_texts.K := fin impl_Series_texts.E ⟨impl_Series_texts.P, impl_Series_texts.R, fun _ _ => none⟩ impl_Series_texts.X impl_Series_texts.P.len 0
noncomputable def impl_Series_texts.l7 (s : (List ByteArray) × List (List (Int × Int × List ByteArray))) : Option ((List (List ByteArray)) × Bool) := fixP impl_Series_texts.E impl_Series_texts.T impl_Series_texts.C impl_Series_texts.K 7 impl_Series_texts.D7 s
noncomputable def impl_Series_texts.l10 (out : List (List ByteArray)) (t24 : List (List (Int × Int × List ByteArray))) (t25 : Int) (t26 : Int) : Option ((List (List ByteArray)) × Bool) := fixP impl_Series_texts.E impl_Series_texts.T impl_Series_texts.C impl_Series_texts.K 10 impl_Series_texts.D10 (out, t24, t25, t26)
noncomputable def impl_Series_texts.f (s : (List ByteArray) × List (List (Int × Int × List ByteArray))) : Option ((List (List ByteArray)) × Bool) := Fn impl_Series_texts.E impl_Series_texts.T impl_Series_texts.C impl_Series_texts.P impl_Series_texts.R impl_Series_texts.X s
theorem impl_Series_texts.l7_eq (s : (List ByteArray) × List (List (Int × Int × List ByteArray))) : impl_Series_texts.l7 s =
  ((slices_Clone_Lstring_string.f s.1).bind fun y1 =>
  impl_Series_texts.l10 [y1] s.2 (s.2.length : Int) 0) :=
  (fixP_eq impl_Series_texts.E impl_Series_texts.T impl_Series_texts.C impl_Series_texts.K 7 impl_Series_texts.D7 s).trans (by kernel_rfl)
theorem impl_Series_texts.l10_eq (out : List (List ByteArray)) (t24 : List (List (Int × Int × List ByteArray))) (t25 : Int) (t26 : Int) : impl_Series_texts.l10 out t24 t25 t26 =
  (bif (decide (t26 < t25)) then (bif ((decide (0 ≤ t26)) && (decide (t26 < (t24.length : Int)))) then (bif ((decide (0 ≤ t26)) && (decide (t26 < (out.length : Int)))) then ((impl_Patch.f (out.getD (t26).toNat ([] : List ByteArray)) (t24.getD (t26).toNat ([] : List (Int × Int × List ByteArray)))).bind fun y1 =>
     bif (!y1.2) then (some (([] : List (List ByteArray)), false)) else
     (bif (decide ((out.length + [y1.1].length) ≤ room 24)) then (impl_Series_texts.l10 (out ++ [y1.1]) t24 t25 (w64 (t26 + 1))) else none)) else none) else none) else (some (out, true))) :=
  (fixP_eq impl_Series_texts.E impl_Series_texts.T impl_Series_texts.C impl_Series_texts.K 10 impl_Series_texts.D10 (out, t24, t25, t26)).trans (by kernel_rfl)
theorem impl_Series_texts.f_eq (s : (List ByteArray) × List (List (Int × Int × List ByteArray))) : impl_Series_texts.f s =
  ((impl_goodLines.f s.1).bind fun y1 =>
  bif (!y1) then (some (([] : List (List ByteArray)), false)) else
  (bif (decide ((s.2.length : Int) ≥ 8)) then (some (([] : List (List ByteArray)), false)) else
   (impl_Series_texts.l7 s))) := by kernel_rfl
noncomputable def impl_Series_texts.S : Abs.Sum := ⟨impl_Series_texts.P, impl_Series_texts.R, fun _ => Fn impl_Series_texts.E impl_Series_texts.T impl_Series_texts.C impl_Series_texts.P impl_Series_texts.R impl_Series_texts.X⟩
theorem impl_Series_texts.meets : Meets Try.prog 89 impl_Series_texts.S := meets_tab (S := impl_Series_texts.U) tabOk_all (AllMeets.cons impl_goodLines.meets (AllMeets.cons slices_Clone_Lstring_string.meets (AllMeets.cons impl_Patch.meets AllMeets.nil))) (AllStill.cons (fun _ _ _ => rfl) (AllStill.cons (fun _ _ _ => rfl) (AllStill.cons (fun _ _ _ => rfl) AllStill.nil))) follows (by kernel_rfl : Try.prog.funcs[89]? = some Try.f89) (by kernel_rfl) (by kernel_rfl) (by kernel_rfl)
noncomputable def impl_common.C : Code := Try.f231.body.getD .skip
def impl_common.P : Par := (.cons (.val (.list .str)) (.cons (.val (.list .str)) .nil))
noncomputable def impl_common.U : SumTab := []
noncomputable def impl_common.E : Env := mkEnv TY AR impl_common.U
def impl_common.D8 : CutD := ⟨[0, 1, 5, 6], (.cons (.val (.list .str)) (.cons (.val (.list .str)) (.cons (.own 9 (.list (.int .i64))) (.cons (.val (.int .i64)) .nil))))⟩
def impl_common.D16 : CutD := ⟨[0, 1, 5, 6, 7], (.cons (.val (.list .str)) (.cons (.val (.list .str)) (.cons (.own 9 (.list (.int .i64))) (.cons (.val (.int .i64)) (.cons (.val (.int .i64)) .nil)))))⟩
noncomputable def impl_common.T : Tab := fun k => look k [(8, impl_common.D8), (16, impl_common.D16)]
def impl_common.R : List (Nat × Ty) := [(9, .list (.list (.int .i64)))]
def impl_common.X : List ResultVar := [.tmp 4]
noncomputable def impl_common.K := fin impl_common.E ⟨impl_common.P, impl_common.R, fun _ _ => none⟩ impl_common.X impl_common.P.len 0
noncomputable def impl_common.l8 (a : List ByteArray) (b : List ByteArray) (out : List (List Int)) (i : Int) : Option ((List (List Int))) := fixP impl_common.E impl_common.T impl_common.C impl_common.K 8 impl_common.D8 (a, b, out, i)
noncomputable def impl_common.l16 (a : List ByteArray) (b : List ByteArray) (out : List (List Int)) (i : Int) (j : Int) : Option ((List (List Int))) := fixP impl_common.E impl_common.T impl_common.C impl_common.K 16 impl_common.D16 (a, b, out, i, j)
noncomputable def impl_common.f (a : List ByteArray) (b : List ByteArray) : Option ((List (List Int))) := Fn impl_common.E impl_common.T impl_common.C impl_common.P impl_common.R impl_common.X (a, b)
theorem impl_common.l8_eq (a : List ByteArray) (b : List ByteArray) (out : List (List Int)) (i : Int) : impl_common.l8 a b out i =
  (bif (decide (i ≥ 0)) then (bif ((decide (0 ≤ (w64 ((b.length : Int) + 1)))) && (decide (((w64 ((b.length : Int) + 1))).toNat ≤ room 8))) then (bif ((decide (0 ≤ i)) && (decide (i < (out.length : Int)))) then (impl_common.l16 a b (out.set (i).toNat (List.replicate ((w64 ((b.length : Int) + 1))).toNat 0)) i (w64 ((b.length : Int) - 1))) else none) else none) else (some out)) :=
  (fixP_eq impl_common.E impl_common.T impl_common.C impl_common.K 8 impl_common.D8 (a, b, out, i)).trans (by kernel_rfl)
theorem impl_common.l16_eq (a : List ByteArray) (b : List ByteArray) (out : List (List Int)) (i : Int) (j : Int) : impl_common.l16 a b out i j =
  (bif (decide (j ≥ 0)) then (bif ((decide (0 ≤ i)) && (decide (i < (a.length : Int)))) then (bif ((decide (0 ≤ j)) && (decide (j < (b.length : Int)))) then (bif ((a.getD (i).toNat em).toList == (b.getD (j).toNat em).toList) then (bif ((decide (0 ≤ i)) && (decide (i < (out.length : Int)))) then (bif ((decide (0 ≤ (w64 (i + 1)))) && (decide ((w64 (i + 1)) < (out.length : Int)))) then (bif ((decide (0 ≤ (w64 (j + 1)))) && (decide ((w64 (j + 1)) < ((out.getD ((w64 (i + 1))).toNat ([] : List Int)).length : Int)))) then (bif ((decide (0 ≤ j)) && (decide (j < ((out.getD (i).toNat ([] : List Int)).length : Int)))) then (impl_common.l16 a b (out.set (i).toNat ((out.getD (i).toNat ([] : List Int)).set (j).toNat (w64 (((out.getD ((w64 (i + 1))).toNat ([] : List Int)).getD ((w64 (j + 1))).toNat 0) + 1)))) i (w64 (j - 1))) else none) else none) else none) else none) else
     (bif ((decide (0 ≤ i)) && (decide (i < (out.length : Int)))) then (bif ((decide (0 ≤ (w64 (i + 1)))) && (decide ((w64 (i + 1)) < (out.length : Int)))) then (bif ((decide (0 ≤ j)) && (decide (j < ((out.getD ((w64 (i + 1))).toNat ([] : List Int)).length : Int)))) then (bif ((decide (0 ≤ i)) && (decide (i < (out.length : Int)))) then (bif ((decide (0 ≤ (w64 (j + 1)))) && (decide ((w64 (j + 1)) < ((out.getD (i).toNat ([] : List Int)).length : Int)))) then (bif ((decide (0 ≤ j)) && (decide (j < ((out.getD (i).toNat ([] : List Int)).length : Int)))) then (impl_common.l16 a b (out.set (i).toNat ((out.getD (i).toNat ([] : List Int)).set (j).toNat (max ((out.getD ((w64 (i + 1))).toNat ([] : List Int)).getD (j).toNat 0) ((out.getD (i).toNat ([] : List Int)).getD ((w64 (j + 1))).toNat 0)))) i (w64 (j - 1))) else none) else none) else none) else none) else none) else none)) else none) else none) else
  (impl_common.l8 a b out (w64 (i - 1)))) :=
  (fixP_eq impl_common.E impl_common.T impl_common.C impl_common.K 16 impl_common.D16 (a, b, out, i, j)).trans (by kernel_rfl)
theorem impl_common.f_eq (a : List ByteArray) (b : List ByteArray) : impl_common.f a b =
  (bif ((decide (0 ≤ (w64 ((a.length : Int) + 1)))) && (decide (((w64 ((a.length : Int) + 1))).toNat ≤ room 24))) then (bif ((decide (0 ≤ (w64 ((b.length : Int) + 1)))) && (decide (((w64 ((b.length : Int) + 1))).toNat ≤ room 8))) then (bif ((decide (0 ≤ (a.length : Int))) && (decide ((a.length : Int) < ((List.replicate ((w64 ((a.length : Int) + 1))).toNat ([] : List Int)).length : Int)))) then (impl_common.l8 a b ((List.replicate ((w64 ((a.length : Int) + 1))).toNat ([] : List Int)).set ((a.length : Int)).toNat (List.replicate ((w64 ((b.length : Int) + 1))).toNat 0)) (w64 ((a.length : Int) - 1))) else none) else none) else none) := by kernel_rfl
noncomputable def impl_common.S : Abs.Sum := ⟨impl_common.P, impl_common.R, fun _ => Fn impl_common.E impl_common.T impl_common.C impl_common.P impl_common.R impl_common.X⟩
theorem impl_common.meets : Meets Try.prog 231 impl_common.S := meets_tab (S := impl_common.U) tabOk_all AllMeets.nil AllStill.nil follows (by kernel_rfl : Try.prog.funcs[231]? = some Try.f231) (by kernel_rfl) (by kernel_rfl) (by kernel_rfl)
noncomputable def impl_commonLines.C : Code := Try.f208.body.getD .skip
def impl_commonLines.P : Par := (.cons (.val (.list .str)) (.cons (.val (.list .str)) .nil))
noncomputable def impl_commonLines.U : SumTab := [(231, [], impl_common.S)]
noncomputable def impl_commonLines.E : Env := mkEnv TY AR impl_commonLines.U
def impl_commonLines.D8 : CutD := ⟨[0, 1, 5, 6, 7, 8, 21, 22], (.cons (.val (.list .str)) (.cons (.val (.list .str)) (.cons (.own 8 (.list (.int .i64))) (.cons (.own 9 (.list (.int .i64))) (.cons (.val (.int .i64)) (.cons (.val (.int .i64)) (.cons (.val (.int .i64)) (.cons (.val (.int .i64)) .nil))))))))⟩
def impl_commonLines.D14 : CutD := ⟨[0, 1, 5, 6, 7, 8, 9, 10, 21, 22], (.cons (.val (.list .str)) (.cons (.val (.list .str)) (.cons (.own 8 (.list (.int .i64))) (.cons (.own 9 (.list (.int .i64))) (.cons (.val (.int .i64)) (.cons (.val (.int .i64)) (.cons (.val (.int .i64)) (.cons (.val (.int .i64)) (.cons (.val (.int .i64)) (.cons (.val (.int .i64)) .nil))))))))))⟩
def impl_commonLines.D19 : CutD := ⟨[0, 1, 5, 6, 7, 8, 9, 10, 21, 22], (.cons (.val (.list .str)) (.cons (.val (.list .str)) (.cons (.own 8 (.list (.int .i64))) (.cons (.own 9 (.list (.int .i64))) (.cons (.val (.int .i64)) (.cons (.val (.int .i64)) (.cons (.val (.int .i64)) (.cons (.val (.int .i64)) (.cons (.val (.int .i64)) (.cons (.val (.int .i64)) .nil))))))))))⟩
noncomputable def impl_commonLines.T : Tab := fun k => look k [(8, impl_commonLines.D8), (14, impl_commonLines.D14), (19, impl_commonLines.D19)]
def impl_commonLines.R : List (Nat × Ty) := [(9, .list (.list (.int .i64)))]
def impl_commonLines.X : List ResultVar := [.tmp 4]
noncomputable def impl_commonLines.K := fin impl_commonLines.E ⟨impl_commonLines.P, impl_commonLines.R, fun _ _ => none⟩ impl_commonLines.X impl_commonLines.P.len 0
noncomputable def impl_commonLines.l8 (a : List ByteArray) (b : List ByteArray) (table : List (List Int)) (out : List (List Int)) (j : Int) (left : Int) (t21 : Int) (t22 : Int) : Option ((List (List Int))) := fixP impl_commonLines.E impl_commonLines.T impl_commonLines.C impl_commonLines.K 8 impl_commonLines.D8 (a, b, table, out, j, left, t21, t22)
noncomputable def impl_commonLines.l14 (a : List ByteArray) (b : List ByteArray) (table : List (List Int)) (out : List (List Int)) (j : Int) (left : Int) (i : Int) (k : Int) (t21 : Int) (t22 : Int) : Option ((List (List Int))) := fixP impl_commonLines.E impl_commonLines.T impl_commonLines.C impl_commonLines.K 14 impl_commonLines.D14 (a, b, table, out, j, left, i, k, t21, t22)
noncomputable def impl_commonLines.l19 (a : List ByteArray) (b : List ByteArray) (table : List (List Int)) (out : List (List Int)) (j : Int) (left : Int) (i : Int) (k : Int) (t21 : Int) (t22 : Int) : Option ((List (List Int))) := fixP impl_commonLines.E impl_commonLines.T impl_commonLines.C impl_commonLines.K 19 impl_commonLines.D19 (a, b, table, out, j, left, i, k, t21, t22)
noncomputable def impl_commonLines.f (a : List ByteArray) (b : List ByteArray) : Option ((List (List Int))) := Fn impl_commonLines.E impl_commonLines.T impl_commonLines.C impl_commonLines.P impl_commonLines.R impl_commonLines.X (a, b)
theorem impl_commonLines.l8_eq (a : List ByteArray) (b : List ByteArray) (table : List (List Int)) (out : List (List Int)) (j : Int) (left : Int) (t21 : Int) (t22 : Int) : impl_commonLines.l8 a b table out j left t21 t22 =
  (bif (decide (t22 < t21)) then (impl_commonLines.l14 a b table out j left t22 j t21 t22) else (some out)) :=
  (fixP_eq impl_commonLines.E impl_commonLines.T impl_commonLines.C impl_commonLines.K 8 impl_commonLines.D8 (a, b, table, out, j, left, t21, t22)).trans (by kernel_rfl)
theorem impl_commonLines.l14_eq (a : List ByteArray) (b : List ByteArray) (table : List (List Int)) (out : List (List Int)) (j : Int) (left : Int) (i : Int) (k : Int) (t21 : Int) (t22 : Int) : impl_commonLines.l14 a b table out j left i k t21 t22 =
  (bif (decide (k < (b.length : Int))) then (bif (decide (left > 0)) then (impl_commonLines.l19 a b table out j left i k t21 t22) else
   (impl_commonLines.l8 a b table out j left t21 (w64 (t22 + 1)))) else
  (impl_commonLines.l8 a b table out j left t21 (w64 (t22 + 1)))) :=
  (fixP_eq impl_commonLines.E impl_commonLines.T impl_commonLines.C impl_commonLines.K 14 impl_commonLines.D14 (a, b, table, out, j, left, i, k, t21, t22)).trans (by kernel_rfl)
theorem impl_commonLines.l19_eq (a : List ByteArray) (b : List ByteArray) (table : List (List Int)) (out : List (List Int)) (j : Int) (left : Int) (i : Int) (k : Int) (t21 : Int) (t22 : Int) : impl_commonLines.l19 a b table out j left i k t21 t22 =
  (bif ((decide (0 ≤ i)) && (decide (i < (a.length : Int)))) then (bif ((decide (0 ≤ k)) && (decide (k < (b.length : Int)))) then (bif ((a.getD (i).toNat em).toList == (b.getD (k).toNat em).toList) then (bif ((decide (0 ≤ (w64 (i + 1)))) && (decide ((w64 (i + 1)) < (table.length : Int)))) then (bif ((decide (0 ≤ (w64 (k + 1)))) && (decide ((w64 (k + 1)) < ((table.getD ((w64 (i + 1))).toNat ([] : List Int)).length : Int)))) then (bif (decide (((table.getD ((w64 (i + 1))).toNat ([] : List Int)).getD ((w64 (k + 1))).toNat 0) = (w64 (left - 1)))) then (bif (decide ((out.length + [[i, k]].length) ≤ room 24)) then (impl_commonLines.l8 a b table (out ++ [[i, k]]) (w64 (k + 1)) (w64 (left - 1)) t21 (w64 (t22 + 1))) else none) else
       (impl_commonLines.l14 a b table out j left i (w64 (k + 1)) t21 t22)) else none) else none) else
    (impl_commonLines.l14 a b table out j left i (w64 (k + 1)) t21 t22)) else none) else none) :=
  (fixP_eq impl_commonLines.E impl_commonLines.T impl_commonLines.C impl_commonLines.K 19 impl_commonLines.D19 (a, b, table, out, j, left, i, k, t21, t22)).trans (by kernel_rfl)
theorem impl_commonLines.f_eq (a : List ByteArray) (b : List ByteArray) : impl_commonLines.f a b =
  ((impl_common.f a b).bind fun y1 =>
  bif (decide (0 < (y1.length : Int))) then (bif (decide (0 < ((y1.getD 0 ([] : List Int)).length : Int))) then (impl_commonLines.l8 a b y1 ([] : List (List Int)) 0 ((y1.getD 0 ([] : List Int)).getD 0 0) (a.length : Int) 0) else none) else none) := by kernel_rfl
noncomputable def impl_commonLines.S : Abs.Sum := ⟨impl_commonLines.P, impl_commonLines.R, fun _ => Fn impl_commonLines.E impl_commonLines.T impl_commonLines.C impl_commonLines.P impl_commonLines.R impl_commonLines.X⟩
theorem impl_commonLines.meets : Meets Try.prog 208 impl_commonLines.S := meets_tab (S := impl_commonLines.U) tabOk_all (AllMeets.cons impl_common.meets AllMeets.nil) (AllStill.cons (fun _ _ _ => rfl) AllStill.nil) follows (by kernel_rfl : Try.prog.funcs[208]? = some Try.f208) (by kernel_rfl) (by kernel_rfl) (by kernel_rfl)
noncomputable def impl_between.C : Code := Try.f207.body.getD .skip
def impl_between.P : Par := (.cons (.val (.list .str)) (.cons (.val (.list .str)) (.cons (.val (.list (.list (.int .i64)))) .nil)))
noncomputable def impl_between.U : SumTab := [(230, [], slices_Clone_LLint_Lint.S), (120, [], slices_Clone_Lstring_string.S)]
noncomputable def impl_between.E : Env := mkEnv TY AR impl_between.U
def impl_between.D6 : CutD := ⟨[1, 7, 8, 9, 21, 22, 23], (.cons (.val (.list .str)) (.cons (.own 9 (.pair (.int .i64) (.pair (.int .i64) (.one (.list .str))))) (.cons (.val (.int .i64)) (.cons (.val (.int .i64)) (.cons (.own 0 (.list (.int .i64))) (.cons (.val (.int .i64)) (.cons (.val (.int .i64)) .nil)))))))⟩
def impl_between.D15 : CutD := ⟨[1, 7, 11, 21, 22, 23], (.cons (.val (.list .str)) (.cons (.own 9 (.pair (.int .i64) (.pair (.int .i64) (.one (.list .str))))) (.cons (.val (.list (.int .i64))) (.cons (.own 0 (.list (.int .i64))) (.cons (.val (.int .i64)) (.cons (.val (.int .i64)) .nil))))))⟩
noncomputable def impl_between.T : Tab := fun k => look k [(6, impl_between.D6), (15, impl_between.D15)]
def impl_between.R : List (Nat × Ty) := [(9, .list (.pair (.int .i64) (.pair (.int .i64) (.one (.list .str)))))]
def impl_between.X : List ResultVar := [.tmp 6]
noncomputable def impl_between.K := fin impl_between.E ⟨impl_between.P, impl_between.R, fun _ _ => none⟩ impl_between.X impl_between.P.len 0
noncomputable def impl_between.l6 (b : List ByteArray) (out : List (Int × Int × List ByteArray)) (i : Int) (j : Int) (t21 : List (List Int)) (t22 : Int) (t23 : Int) : Option ((List (Int × Int × List ByteArray))) := fixP impl_between.E impl_between.T impl_between.C impl_between.K 6 impl_between.D6 (b, out, i, j, t21, t22, t23)
noncomputable def impl_between.l15 (b : List ByteArray) (out : List (Int × Int × List ByteArray)) (p : List Int) (t21 : List (List Int)) (t22 : Int) (t23 : Int) : Option ((List (Int × Int × List ByteArray))) := fixP impl_between.E impl_between.T impl_between.C impl_between.K 15 impl_between.D15 (b, out, p, t21, t22, t23)
noncomputable def impl_between.f (a : List ByteArray) (b : List ByteArray) (pairs : List (List Int)) : Option ((List (Int × Int × List ByteArray))) := Fn impl_between.E impl_between.T impl_between.C impl_between.P impl_between.R impl_between.X (a, b, pairs)
theorem impl_between.l6_eq (b : List ByteArray) (out : List (Int × Int × List ByteArray)) (i : Int) (j : Int) (t21 : List (List Int)) (t22 : Int) (t23 : Int) : impl_between.l6 b out i j t21 t22 t23 =
  (bif (decide (t23 < t22)) then (bif ((decide (0 ≤ t23)) && (decide (t23 < (t21.length : Int)))) then (bif (decide (0 < ((t21.getD (t23).toNat ([] : List Int)).length : Int))) then (bif (decide (((t21.getD (t23).toNat ([] : List Int)).getD 0 0) > i)) then (bif (decide (0 < ((t21.getD (t23).toNat ([] : List Int)).length : Int))) then (bif (decide (1 < ((t21.getD (t23).toNat ([] : List Int)).length : Int))) then (bif ((decide (0 ≤ j)) && ((decide (j ≤ ((t21.getD (t23).toNat ([] : List Int)).getD 1 0))) && (decide (((t21.getD (t23).toNat ([] : List Int)).getD 1 0) ≤ (b.length : Int))))) then ((slices_Clone_Lstring_string.f ((b.take (((t21.getD (t23).toNat ([] : List Int)).getD 1 0)).toNat).drop (j).toNat)).bind fun y1 =>
         bif (decide ((out.length + [(i, (w64 (((t21.getD (t23).toNat ([] : List Int)).getD 0 0) - i)), y1)].length) ≤ room 40)) then (impl_between.l15 b (out ++ [(i, (w64 (((t21.getD (t23).toNat ([] : List Int)).getD 0 0) - i)), y1)]) (t21.getD (t23).toNat ([] : List Int)) t21 t22 t23) else none) else none) else none) else none) else
     (bif (decide (1 < ((t21.getD (t23).toNat ([] : List Int)).length : Int))) then (bif (decide (((t21.getD (t23).toNat ([] : List Int)).getD 1 0) > j)) then (bif (decide (0 < ((t21.getD (t23).toNat ([] : List Int)).length : Int))) then (bif (decide (1 < ((t21.getD (t23).toNat ([] : List Int)).length : Int))) then (bif ((decide (0 ≤ j)) && ((decide (j ≤ ((t21.getD (t23).toNat ([] : List Int)).getD 1 0))) && (decide (((t21.getD (t23).toNat ([] : List Int)).getD 1 0) ≤ (b.length : Int))))) then ((slices_Clone_Lstring_string.f ((b.take (((t21.getD (t23).toNat ([] : List Int)).getD 1 0)).toNat).drop (j).toNat)).bind fun y1 =>
           bif (decide ((out.length + [(i, (w64 (((t21.getD (t23).toNat ([] : List Int)).getD 0 0) - i)), y1)].length) ≤ room 40)) then (impl_between.l15 b (out ++ [(i, (w64 (((t21.getD (t23).toNat ([] : List Int)).getD 0 0) - i)), y1)]) (t21.getD (t23).toNat ([] : List Int)) t21 t22 t23) else none) else none) else none) else none) else
       (impl_between.l15 b out (t21.getD (t23).toNat ([] : List Int)) t21 t22 t23)) else none)) else none) else none) else (some out)) :=
  (fixP_eq impl_between.E impl_between.T impl_between.C impl_between.K 6 impl_between.D6 (b, out, i, j, t21, t22, t23)).trans (by kernel_rfl)
theorem impl_between.l15_eq (b : List ByteArray) (out : List (Int × Int × List ByteArray)) (p : List Int) (t21 : List (List Int)) (t22 : Int) (t23 : Int) : impl_between.l15 b out p t21 t22 t23 =
  (bif (decide (0 < (p.length : Int))) then (bif (decide (1 < (p.length : Int))) then (impl_between.l6 b out (w64 ((p.getD 0 0) + 1)) (w64 ((p.getD 1 0) + 1)) t21 t22 (w64 (t23 + 1))) else none) else none) :=
  (fixP_eq impl_between.E impl_between.T impl_between.C impl_between.K 15 impl_between.D15 (b, out, p, t21, t22, t23)).trans (by kernel_rfl)
theorem impl_between.f_eq (a : List ByteArray) (b : List ByteArray) (pairs : List (List Int)) : impl_between.f a b pairs =
  ((slices_Clone_LLint_Lint.f pairs).bind fun y1 =>
  bif (decide ((y1.length + [[(a.length : Int), (b.length : Int)]].length) ≤ room 24)) then (impl_between.l6 b ([] : List (Int × Int × List ByteArray)) 0 0 (y1 ++ [[(a.length : Int), (b.length : Int)]]) ((y1 ++ [[(a.length : Int), (b.length : Int)]]).length : Int) 0) else none) := by kernel_rfl
noncomputable def impl_between.S : Abs.Sum := ⟨impl_between.P, impl_between.R, fun _ => Fn impl_between.E impl_between.T impl_between.C impl_between.P impl_between.R impl_between.X⟩
theorem impl_between.meets : Meets Try.prog 207 impl_between.S := meets_tab (S := impl_between.U) tabOk_all (AllMeets.cons slices_Clone_LLint_Lint.meets (AllMeets.cons slices_Clone_Lstring_string.meets AllMeets.nil)) (AllStill.cons (fun _ _ _ => rfl) (AllStill.cons (fun _ _ _ => rfl) AllStill.nil)) follows (by kernel_rfl : Try.prog.funcs[207]? = some Try.f207) (by kernel_rfl) (by kernel_rfl) (by kernel_rfl)
noncomputable def impl_diff.C : Code := Try.f166.body.getD .skip
def impl_diff.P : Par := (.cons (.val (.list .str)) (.cons (.val (.list .str)) .nil))
noncomputable def impl_diff.U : SumTab := [(208, [], impl_commonLines.S), (207, [], impl_between.S)]
noncomputable def impl_diff.E : Env := mkEnv TY AR impl_diff.U
noncomputable def impl_diff.T : Tab := fun k => look k []
def impl_diff.R : List (Nat × Ty) := [(9, .list (.pair (.int .i64) (.pair (.int .i64) (.one (.list .str)))))]
def impl_diff.X : List ResultVar := [.tmp 4]
noncomputable def impl_diff.f (a : List ByteArray) (b : List ByteArray) : Option ((List (Int × Int × List ByteArray))) := Fn impl_diff.E impl_diff.T impl_diff.C impl_diff.P impl_diff.R impl_diff.X (a, b)
theorem impl_diff.f_eq (a : List ByteArray) (b : List ByteArray) : impl_diff.f a b =
  ((impl_commonLines.f a b).bind fun y1 =>
  (impl_between.f a b y1).bind fun y2 =>
  some y2) := by kernel_rfl
noncomputable def impl_diff.S : Abs.Sum := ⟨impl_diff.P, impl_diff.R, fun _ => Fn impl_diff.E impl_diff.T impl_diff.C impl_diff.P impl_diff.R impl_diff.X⟩
theorem impl_diff.meets : Meets Try.prog 166 impl_diff.S := meets_tab (S := impl_diff.U) tabOk_all (AllMeets.cons impl_commonLines.meets (AllMeets.cons impl_between.meets AllMeets.nil)) (AllStill.cons (fun _ _ _ => rfl) (AllStill.cons (fun _ _ _ => rfl) AllStill.nil)) follows (by kernel_rfl : Try.prog.funcs[166]? = some Try.f166) (by kernel_rfl) (by kernel_rfl) (by kernel_rfl)
noncomputable def impl_DiffHunks.C : Code := Try.f90.body.getD .skip
def impl_DiffHunks.P : Par := (.cons (.val (.list .str)) (.cons (.val (.list .str)) .nil))
noncomputable def impl_DiffHunks.U : SumTab := [(127, [], impl_goodLines.S), (166, [], impl_diff.S), (167, [], impl_goodHunks.S)]
noncomputable def impl_DiffHunks.E : Env := mkEnv TY AR impl_DiffHunks.U
def impl_DiffHunks.D7 : CutD := ⟨[0, 1], (.cons (.val (.list .str)) (.cons (.val (.list .str)) .nil))⟩
noncomputable def impl_DiffHunks.T : Tab := fun k => look k [(7, impl_DiffHunks.D7)]
def impl_DiffHunks.R : List (Nat × Ty) := [(9, .list (.pair (.int .i64) (.pair (.int .i64) (.one (.list .str))))), (0, .bool)]
def impl_DiffHunks.X : List ResultVar := [.tmp 4, .tmp 5]
noncomputable def impl_DiffHunks.K := fin impl_DiffHunks.E ⟨impl_DiffHunks.P, impl_DiffHunks.R, fun _ _ => none⟩ impl_DiffHunks.X impl_DiffHunks.P.len 0
noncomputable def impl_DiffHunks.l7 (a : List ByteArray) (b : List ByteArray) : Option ((List (Int × Int × List ByteArray)) × Bool) := fixP impl_DiffHunks.E impl_DiffHunks.T impl_DiffHunks.C impl_DiffHunks.K 7 impl_DiffHunks.D7 (a, b)
noncomputable def impl_DiffHunks.f (a : List ByteArray) (b : List ByteArray) : Option ((List (Int × Int × List ByteArray)) × Bool) := Fn impl_DiffHunks.E impl_DiffHunks.T impl_DiffHunks.C impl_DiffHunks.P impl_DiffHunks.R impl_DiffHunks.X (a, b)
theorem impl_DiffHunks.l7_eq (a : List ByteArray) (b : List ByteArray) : impl_DiffHunks.l7 a b =
  ((impl_diff.f a b).bind fun y1 =>
  (impl_goodHunks.f (a.length : Int) y1).bind fun y2 =>
  bif (!y2) then (some (([] : List (Int × Int × List ByteArray)), false)) else (some (y1, true))) :=
  (fixP_eq impl_DiffHunks.E impl_DiffHunks.T impl_DiffHunks.C impl_DiffHunks.K 7 impl_DiffHunks.D7 (a, b)).trans (by kernel_rfl)
theorem impl_DiffHunks.f_eq (a : List ByteArray) (b : List ByteArray) : impl_DiffHunks.f a b =
  ((impl_goodLines.f a).bind fun y1 =>
  bif (!y1) then (some (([] : List (Int × Int × List ByteArray)), false)) else
  ((impl_goodLines.f b).bind fun y2 =>
   bif (!y2) then (some (([] : List (Int × Int × List ByteArray)), false)) else
   (impl_DiffHunks.l7 a b))) := by kernel_rfl
noncomputable def impl_DiffHunks.S : Abs.Sum := ⟨impl_DiffHunks.P, impl_DiffHunks.R, fun _ => Fn impl_DiffHunks.E impl_DiffHunks.T impl_DiffHunks.C impl_DiffHunks.P impl_DiffHunks.R impl_DiffHunks.X⟩
theorem impl_DiffHunks.meets : Meets Try.prog 90 impl_DiffHunks.S := meets_tab (S := impl_DiffHunks.U) tabOk_all (AllMeets.cons impl_goodLines.meets (AllMeets.cons impl_diff.meets (AllMeets.cons impl_goodHunks.meets AllMeets.nil))) (AllStill.cons (fun _ _ _ => rfl) (AllStill.cons (fun _ _ _ => rfl) (AllStill.cons (fun _ _ _ => rfl) AllStill.nil))) follows (by kernel_rfl : Try.prog.funcs[90]? = some Try.f90) (by kernel_rfl) (by kernel_rfl) (by kernel_rfl)
noncomputable def laws_big.C : Code := Try.f21.body.getD .skip
def laws_big.P : Par := (.cons (.val (.list (.int .u8))) (.cons (.val (.list (.int .u8))) .nil))
noncomputable def laws_big.U : SumTab := []
noncomputable def laws_big.E : Env := mkEnv TY AR laws_big.U
noncomputable def laws_big.T : Tab := fun k => look k []
def laws_big.R : List (Nat × Ty) := [(0, .bool)]
def laws_big.X : List ResultVar := [.tmp 4]
noncomputable def laws_big.f (code : List Int) (more : List Int) : Option (Bool) := Fn laws_big.E laws_big.T laws_big.C laws_big.P laws_big.R laws_big.X (code, more)
theorem laws_big.f_eq (code : List Int) (more : List Int) : laws_big.f code more =
  (bif (decide ((code.length : Int) > 1048576)) then (some true) else (some (decide ((more.length : Int) > (w64 (1048576 - (code.length : Int))))))) := by kernel_rfl
noncomputable def laws_big.S : Abs.Sum := ⟨laws_big.P, laws_big.R, fun _ => Fn laws_big.E laws_big.T laws_big.C laws_big.P laws_big.R laws_big.X⟩
theorem laws_big.meets : Meets Try.prog 21 laws_big.S := meets_tab (S := laws_big.U) tabOk_all AllMeets.nil AllStill.nil follows (by kernel_rfl : Try.prog.funcs[21]? = some Try.f21) (by kernel_rfl) (by kernel_rfl) (by kernel_rfl)
noncomputable def spec_l1Cur_next.C : Code := Try.f176.body.getD .skip
def spec_l1Cur_next.P : Par := (.cons (.box 0 (.pair (.list (.int .u8)) (.pair (.int .i64) (.one (.int .u64))))) .nil)
noncomputable def spec_l1Cur_next.U : SumTab := []
noncomputable def spec_l1Cur_next.E : Env := mkEnv TY AR spec_l1Cur_next.U
def spec_l1Cur_next.D9 : CutD := ⟨[0, 3], (.cons (.box 0 (.pair (.list (.int .u8)) (.pair (.int .i64) (.one (.int .u64))))) (.cons (.val (.int .i64)) .nil))⟩
noncomputable def spec_l1Cur_next.T : Tab := fun k => look k [(9, spec_l1Cur_next.D9)]
def spec_l1Cur_next.R : List (Nat × Ty) := [(0, .int .i64)]
def spec_l1Cur_next.X : List ResultVar := [.tmp 2]
noncomputable def spec_l1Cur_next.K := fin spec_l1Cur_next.E ⟨spec_l1Cur_next.P, spec_l1Cur_next.R, fun _ _ => none⟩ spec_l1Cur_next.X spec_l1Cur_next.P.len 0
noncomputable def spec_l1Cur_next.l9 (c : (List Int) × Int × Int) (b : Int) : Option (Int × ((List Int) × Int × Int)) := fixP spec_l1Cur_next.E spec_l1Cur_next.T spec_l1Cur_next.C spec_l1Cur_next.K 9 spec_l1Cur_next.D9 (c, b)
noncomputable def spec_l1Cur_next.f (c : (List Int) × Int × Int) : Option (Int × ((List Int) × Int × Int)) := Fn spec_l1Cur_next.E spec_l1Cur_next.T spec_l1Cur_next.C spec_l1Cur_next.P spec_l1Cur_next.R spec_l1Cur_next.X c
theorem spec_l1Cur_next.l9_eq (c : (List Int) × Int × Int) (b : Int) : spec_l1Cur_next.l9 c b =
  (bif (decide ((w64 (c.2.1 + 1)) ≤ (c.1.length : Int))) then (some (b, c.1, (w64 (c.2.1 + 1)), (IntKind.wrap .u64 ((IntKind.wrap .u64 ((IntKind.wrap .u64 (c.2.2 * 6364136223846793005)) + (IntKind.wrap .u64 b))) + 1442695040888963407)))) else (some ((w64 (andI .u64 (shrI .u64 (IntKind.wrap .u64 ((IntKind.wrap .u64 ((IntKind.wrap .u64 (c.2.2 * 6364136223846793005)) + (IntKind.wrap .u64 b))) + 1442695040888963407)) 40) 255)), c.1, (w64 (c.2.1 + 1)), (IntKind.wrap .u64 ((IntKind.wrap .u64 ((IntKind.wrap .u64 (c.2.2 * 6364136223846793005)) + (IntKind.wrap .u64 b))) + 1442695040888963407))))) :=
  (fixP_eq spec_l1Cur_next.E spec_l1Cur_next.T spec_l1Cur_next.C spec_l1Cur_next.K 9 spec_l1Cur_next.D9 (c, b)).trans (by kernel_rfl)
theorem spec_l1Cur_next.f_eq (c : (List Int) × Int × Int) : spec_l1Cur_next.f c =
  (bif (decide (c.2.1 < (c.1.length : Int))) then (bif ((decide (0 ≤ c.2.1)) && (decide (c.2.1 < (c.1.length : Int)))) then (spec_l1Cur_next.l9 c (w64 (c.1.getD (c.2.1).toNat 0))) else none) else
  (spec_l1Cur_next.l9 c 0)) := by kernel_rfl
noncomputable def spec_l1Cur_next.S : Abs.Sum := ⟨spec_l1Cur_next.P, spec_l1Cur_next.R, fun _ => Fn spec_l1Cur_next.E spec_l1Cur_next.T spec_l1Cur_next.C spec_l1Cur_next.P spec_l1Cur_next.R spec_l1Cur_next.X⟩
theorem spec_l1Cur_next.meets : Meets Try.prog 176 spec_l1Cur_next.S := meets_tab (S := spec_l1Cur_next.U) tabOk_all AllMeets.nil AllStill.nil follows (by kernel_rfl : Try.prog.funcs[176]? = some Try.f176) (by kernel_rfl) (by kernel_rfl) (by kernel_rfl)
noncomputable def spec_l1Cur_pick.C : Code := Try.f116.body.getD .skip
def spec_l1Cur_pick.P : Par := (.cons (.box 0 (.pair (.list (.int .u8)) (.pair (.int .i64) (.one (.int .u64))))) (.cons (.val (.int .i64)) .nil))
noncomputable def spec_l1Cur_pick.U : SumTab := [(176, [], spec_l1Cur_next.S)]
noncomputable def spec_l1Cur_pick.E : Env := mkEnv TY AR spec_l1Cur_pick.U
noncomputable def spec_l1Cur_pick.T : Tab := fun k => look k []
def spec_l1Cur_pick.R : List (Nat × Ty) := [(0, .int .i64)]
def spec_l1Cur_pick.X : List ResultVar := [.tmp 4]
noncomputable def spec_l1Cur_pick.f (c : (List Int) × Int × Int) (n : Int) : Option (Int × ((List Int) × Int × Int)) := Fn spec_l1Cur_pick.E spec_l1Cur_pick.T spec_l1Cur_pick.C spec_l1Cur_pick.P spec_l1Cur_pick.R spec_l1Cur_pick.X (c, n)
theorem spec_l1Cur_pick.f_eq (c : (List Int) × Int × Int) (n : Int) : spec_l1Cur_pick.f c n =
  (bif (decide (n ≤ 1)) then (some (0, c)) else
  ((spec_l1Cur_next.f c).bind fun y5 =>
   bif (decide (n > 200)) then ((spec_l1Cur_next.f y5.2).bind fun y6 =>
    bif (!(decide (n = 0))) then (some (((w64 ((w64 (y5.1 * 256)) + y6.1)).tmod n), y6.2)) else none) else
   (bif (!(decide (n = 0))) then (some ((y5.1.tmod n), y5.2)) else none))) := by kernel_rfl
noncomputable def spec_l1Cur_pick.S : Abs.Sum := ⟨spec_l1Cur_pick.P, spec_l1Cur_pick.R, fun _ => Fn spec_l1Cur_pick.E spec_l1Cur_pick.T spec_l1Cur_pick.C spec_l1Cur_pick.P spec_l1Cur_pick.R spec_l1Cur_pick.X⟩
theorem spec_l1Cur_pick.meets : Meets Try.prog 116 spec_l1Cur_pick.S := meets_tab (S := spec_l1Cur_pick.U) tabOk_all (AllMeets.cons spec_l1Cur_next.meets AllMeets.nil) (AllStill.cons (fun _ _ _ => rfl) AllStill.nil) follows (by kernel_rfl : Try.prog.funcs[116]? = some Try.f116) (by kernel_rfl) (by kernel_rfl) (by kernel_rfl)
noncomputable def spec_l1Cur_of.C : Code := Try.f195.body.getD .skip
def spec_l1Cur_of.P : Par := (.cons (.box 0 (.pair (.list (.int .u8)) (.pair (.int .i64) (.one (.int .u64))))) (.cons (.own 5 .str) .nil))
noncomputable def spec_l1Cur_of.U : SumTab := [(116, [], spec_l1Cur_pick.S)]
noncomputable def spec_l1Cur_of.E : Env := mkEnv TY AR spec_l1Cur_of.U
noncomputable def spec_l1Cur_of.T : Tab := fun k => look k []
def spec_l1Cur_of.R : List (Nat × Ty) := [(0, .str)]
def spec_l1Cur_of.X : List ResultVar := [.tmp 4]
noncomputable def spec_l1Cur_of.f (c : (List Int) × Int × Int) (list : List ByteArray) : Option (ByteArray × ((List Int) × Int × Int)) := Fn spec_l1Cur_of.E spec_l1Cur_of.T spec_l1Cur_of.C spec_l1Cur_of.P spec_l1Cur_of.R spec_l1Cur_of.X (c, list)
theorem spec_l1Cur_of.f_eq (c : (List Int) × Int × Int) (list : List ByteArray) : spec_l1Cur_of.f c list =
  ((spec_l1Cur_pick.f c (list.length : Int)).bind fun y5 =>
  bif ((decide (0 ≤ y5.1)) && (decide (y5.1 < (list.length : Int)))) then (some ((list.getD (y5.1).toNat em), y5.2)) else none) := by kernel_rfl
noncomputable def spec_l1Cur_of.S : Abs.Sum := ⟨spec_l1Cur_of.P, spec_l1Cur_of.R, fun _ => Fn spec_l1Cur_of.E spec_l1Cur_of.T spec_l1Cur_of.C spec_l1Cur_of.P spec_l1Cur_of.R spec_l1Cur_of.X⟩
theorem spec_l1Cur_of.meets : Meets Try.prog 195 spec_l1Cur_of.S := meets_tab (S := spec_l1Cur_of.U) tabOk_all (AllMeets.cons spec_l1Cur_pick.meets AllMeets.nil) (AllStill.cons (fun _ _ _ => rfl) AllStill.nil) follows (by kernel_rfl : Try.prog.funcs[195]? = some Try.f195) (by kernel_rfl) (by kernel_rfl) (by kernel_rfl)
noncomputable def spec_l1Cur_line.C : Code := Try.f210.body.getD .skip
def spec_l1Cur_line.P : Par := (.cons (.box 0 (.pair (.list (.int .u8)) (.pair (.int .i64) (.one (.int .u64))))) .nil)
noncomputable def spec_l1Cur_line.U : SumTab := [(195, [], spec_l1Cur_of.S)]
noncomputable def spec_l1Cur_line.E : Env := mkEnv TY AR spec_l1Cur_line.U
noncomputable def spec_l1Cur_line.T : Tab := fun k => look k []
def spec_l1Cur_line.R : List (Nat × Ty) := [(0, .str)]
def spec_l1Cur_line.X : List ResultVar := [.tmp 2]
noncomputable def spec_l1Cur_line.f (c : (List Int) × Int × Int) : Option (ByteArray × ((List Int) × Int × Int)) := Fn spec_l1Cur_line.E spec_l1Cur_line.T spec_l1Cur_line.C spec_l1Cur_line.P spec_l1Cur_line.R spec_l1Cur_line.X c
theorem spec_l1Cur_line.f_eq (c : (List Int) × Int × Int) : spec_l1Cur_line.f c =
  ((spec_l1Cur_of.f c [(⟨#[97]⟩ : ByteArray), (⟨#[98]⟩ : ByteArray), (⟨#[99]⟩ : ByteArray), (⟨#[100]⟩ : ByteArray), em, (⟨#[46]⟩ : ByteArray), (⟨#[46, 46]⟩ : ByteArray), (⟨#[111, 110, 101, 32, 116, 119, 111]⟩ : ByteArray), (⟨#[43, 120]⟩ : ByteArray), (⟨#[45, 121]⟩ : ByteArray), (⟨#[92, 32, 122]⟩ : ByteArray), (⟨#[64, 64]⟩ : ByteArray)]).bind fun y5 =>
  some (y5.1, y5.2)) := by kernel_rfl
noncomputable def spec_l1Cur_line.S : Abs.Sum := ⟨spec_l1Cur_line.P, spec_l1Cur_line.R, fun _ => Fn spec_l1Cur_line.E spec_l1Cur_line.T spec_l1Cur_line.C spec_l1Cur_line.P spec_l1Cur_line.R spec_l1Cur_line.X⟩
theorem spec_l1Cur_line.meets : Meets Try.prog 210 spec_l1Cur_line.S := meets_tab (S := spec_l1Cur_line.U) tabOk_all (AllMeets.cons spec_l1Cur_of.meets AllMeets.nil) (AllStill.cons (fun _ _ _ => rfl) AllStill.nil) follows (by kernel_rfl : Try.prog.funcs[210]? = some Try.f210) (by kernel_rfl) (by kernel_rfl) (by kernel_rfl)
noncomputable def spec_l1Cur_one.C : Code := Try.f196.body.getD .skip
def spec_l1Cur_one.P : Par := (.cons (.box 0 (.pair (.list (.int .u8)) (.pair (.int .i64) (.one (.int .u64))))) (.cons (.val (.int .i64)) .nil))
noncomputable def spec_l1Cur_one.U : SumTab := [(116, [], spec_l1Cur_pick.S)]
noncomputable def spec_l1Cur_one.E : Env := mkEnv TY AR spec_l1Cur_one.U
noncomputable def spec_l1Cur_one.T : Tab := fun k => look k []
def spec_l1Cur_one.R : List (Nat × Ty) := [(0, .bool)]
def spec_l1Cur_one.X : List ResultVar := [.tmp 4]
noncomputable def spec_l1Cur_one.f (c : (List Int) × Int × Int) (n : Int) : Option (Bool × ((List Int) × Int × Int)) := Fn spec_l1Cur_one.E spec_l1Cur_one.T spec_l1Cur_one.C spec_l1Cur_one.P spec_l1Cur_one.R spec_l1Cur_one.X (c, n)
theorem spec_l1Cur_one.f_eq (c : (List Int) × Int × Int) (n : Int) : spec_l1Cur_one.f c n =
  ((spec_l1Cur_pick.f c n).bind fun y5 =>
  some ((decide (y5.1 = 0)), y5.2)) := by kernel_rfl
noncomputable def spec_l1Cur_one.S : Abs.Sum := ⟨spec_l1Cur_one.P, spec_l1Cur_one.R, fun _ => Fn spec_l1Cur_one.E spec_l1Cur_one.T spec_l1Cur_one.C spec_l1Cur_one.P spec_l1Cur_one.R spec_l1Cur_one.X⟩
theorem spec_l1Cur_one.meets : Meets Try.prog 196 spec_l1Cur_one.S := meets_tab (S := spec_l1Cur_one.U) tabOk_all (AllMeets.cons spec_l1Cur_pick.meets AllMeets.nil) (AllStill.cons (fun _ _ _ => rfl) AllStill.nil) follows (by kernel_rfl : Try.prog.funcs[196]? = some Try.f196) (by kernel_rfl) (by kernel_rfl) (by kernel_rfl)
noncomputable def spec_l1Cur_text.C : Code := Try.f170.body.getD .skip
def spec_l1Cur_text.P : Par := (.cons (.box 0 (.pair (.list (.int .u8)) (.pair (.int .i64) (.one (.int .u64))))) .nil)
noncomputable def spec_l1Cur_text.U : SumTab := [(116, [], spec_l1Cur_pick.S), (210, [], spec_l1Cur_line.S), (196, [], spec_l1Cur_one.S), (195, [], spec_l1Cur_of.S)]
noncomputable def spec_l1Cur_text.E : Env := mkEnv TY AR spec_l1Cur_text.U
def spec_l1Cur_text.D6 : CutD := ⟨[0, 3, 4], (.cons (.box 0 (.pair (.list (.int .u8)) (.pair (.int .i64) (.one (.int .u64))))) (.cons (.own 9 .str) (.cons (.val (.int .i64)) .nil)))⟩
noncomputable def spec_l1Cur_text.T : Tab := fun k => look k [(6, spec_l1Cur_text.D6)]
def spec_l1Cur_text.R : List (Nat × Ty) := [(9, .list .str)]
def spec_l1Cur_text.X : List ResultVar := [.tmp 2]
noncomputable def spec_l1Cur_text.K := fin spec_l1Cur_text.E ⟨spec_l1Cur_text.P, spec_l1Cur_text.R, fun _ _ => none⟩ spec_l1Cur_text.X spec_l1Cur_text.P.len 0
noncomputable def spec_l1Cur_text.l6 (c : (List Int) × Int × Int) (l : List ByteArray) (n : Int) : Option ((List ByteArray) × ((List Int) × Int × Int)) := fixP spec_l1Cur_text.E spec_l1Cur_text.T spec_l1Cur_text.C spec_l1Cur_text.K 6 spec_l1Cur_text.D6 (c, l, n)
noncomputable def spec_l1Cur_text.f (c : (List Int) × Int × Int) : Option ((List ByteArray) × ((List Int) × Int × Int)) := Fn spec_l1Cur_text.E spec_l1Cur_text.T spec_l1Cur_text.C spec_l1Cur_text.P spec_l1Cur_text.R spec_l1Cur_text.X c
theorem spec_l1Cur_text.l6_eq (c : (List Int) × Int × Int) (l : List ByteArray) (n : Int) : spec_l1Cur_text.l6 c l n =
  (bif (decide (n > 0)) then ((spec_l1Cur_line.f c).bind fun y5 =>
   bif (decide ((y5.1.size + (⟨#[10]⟩ : ByteArray).size) ≤ 9223372036854775807)) then (bif (decide ((l.length + [(y5.1 ++ (⟨#[10]⟩ : ByteArray))].length) ≤ room 16)) then (spec_l1Cur_text.l6 y5.2 (l ++ [(y5.1 ++ (⟨#[10]⟩ : ByteArray))]) (w64 (n - 1))) else none) else none) else
  ((spec_l1Cur_one.f c 5).bind fun y5 =>
   bif y5.1 then ((spec_l1Cur_of.f y5.2 [(⟨#[97]⟩ : ByteArray), (⟨#[101, 110, 100]⟩ : ByteArray), (⟨#[46]⟩ : ByteArray)]).bind fun y6 =>
    bif (decide ((l.length + [y6.1].length) ≤ room 16)) then (some ((l ++ [y6.1]), y6.2)) else none) else (some (l, y5.2)))) :=
  (fixP_eq spec_l1Cur_text.E spec_l1Cur_text.T spec_l1Cur_text.C spec_l1Cur_text.K 6 spec_l1Cur_text.D6 (c, l, n)).trans (by kernel_rfl)
theorem spec_l1Cur_text.f_eq (c : (List Int) × Int × Int) : spec_l1Cur_text.f c =
  ((spec_l1Cur_pick.f c 9).bind fun y5 =>
  spec_l1Cur_text.l6 y5.2 ([] : List ByteArray) y5.1) := by kernel_rfl
noncomputable def spec_l1Cur_text.S : Abs.Sum := ⟨spec_l1Cur_text.P, spec_l1Cur_text.R, fun _ => Fn spec_l1Cur_text.E spec_l1Cur_text.T spec_l1Cur_text.C spec_l1Cur_text.P spec_l1Cur_text.R spec_l1Cur_text.X⟩
theorem spec_l1Cur_text.meets : Meets Try.prog 170 spec_l1Cur_text.S := meets_tab (S := spec_l1Cur_text.U) tabOk_all (AllMeets.cons spec_l1Cur_pick.meets (AllMeets.cons spec_l1Cur_line.meets (AllMeets.cons spec_l1Cur_one.meets (AllMeets.cons spec_l1Cur_of.meets AllMeets.nil)))) (AllStill.cons (fun _ _ _ => rfl) (AllStill.cons (fun _ _ _ => rfl) (AllStill.cons (fun _ _ _ => rfl) (AllStill.cons (fun _ _ _ => rfl) AllStill.nil)))) follows (by kernel_rfl : Try.prog.funcs[170]? = some Try.f170) (by kernel_rfl) (by kernel_rfl) (by kernel_rfl)
noncomputable def spec_l1Whole.C : Code := Try.f150.body.getD .skip
def spec_l1Whole.P : Par := (.cons (.val (.list .str)) .nil)
noncomputable def spec_l1Whole.U : SumTab := [(160, [], spec_l1Ends.S)]
noncomputable def spec_l1Whole.E : Env := mkEnv TY AR spec_l1Whole.U
noncomputable def spec_l1Whole.T : Tab := fun k => look k []
def spec_l1Whole.R : List (Nat × Ty) := [(0, .bool)]
def spec_l1Whole.X : List ResultVar := [.tmp 2]
noncomputable def spec_l1Whole.f (l : List ByteArray) : Option (Bool) := Fn spec_l1Whole.E spec_l1Whole.T spec_l1Whole.C spec_l1Whole.P spec_l1Whole.R spec_l1Whole.X l
theorem spec_l1Whole.f_eq (l : List ByteArray) : spec_l1Whole.f l =
  (bif (decide ((l.length : Int) = 0)) then (some true) else
  (bif ((decide (0 ≤ (w64 ((l.length : Int) - 1)))) && (decide ((w64 ((l.length : Int) - 1)) < (l.length : Int)))) then ((spec_l1Ends.f (l.getD ((w64 ((l.length : Int) - 1))).toNat em)).bind fun y5 =>
    some y5) else none)) := by kernel_rfl
noncomputable def spec_l1Whole.S : Abs.Sum := ⟨spec_l1Whole.P, spec_l1Whole.R, fun _ => Fn spec_l1Whole.E spec_l1Whole.T spec_l1Whole.C spec_l1Whole.P spec_l1Whole.R spec_l1Whole.X⟩
theorem spec_l1Whole.meets : Meets Try.prog 150 spec_l1Whole.S := meets_tab (S := spec_l1Whole.U) tabOk_all (AllMeets.cons spec_l1Ends.meets AllMeets.nil) (AllStill.cons (fun _ _ _ => rfl) AllStill.nil) follows (by kernel_rfl : Try.prog.funcs[150]? = some Try.f150) (by kernel_rfl) (by kernel_rfl) (by kernel_rfl)
noncomputable def spec_l1Plain.C : Code := Try.f222.body.getD .skip
def spec_l1Plain.P : Par := (.cons (.val .str) .nil)
noncomputable def spec_l1Plain.U : SumTab := [(160, [], spec_l1Ends.S)]
noncomputable def spec_l1Plain.E : Env := mkEnv TY AR spec_l1Plain.U
noncomputable def spec_l1Plain.T : Tab := fun k => look k []
def spec_l1Plain.R : List (Nat × Ty) := [(0, .str)]
def spec_l1Plain.X : List ResultVar := [.tmp 2]
noncomputable def spec_l1Plain.f (s : ByteArray) : Option (ByteArray) := Fn spec_l1Plain.E spec_l1Plain.T spec_l1Plain.C spec_l1Plain.P spec_l1Plain.R spec_l1Plain.X s
theorem spec_l1Plain.f_eq (s : ByteArray) : spec_l1Plain.f s =
  ((spec_l1Ends.f s).bind fun y5 =>
  bif y5 then (bif ((decide (0 ≤ (w64 ((s.size : Int) - 1)))) && (decide ((w64 ((s.size : Int) - 1)) ≤ (s.size : Int)))) then (some (s.extract 0 ((w64 ((s.size : Int) - 1))).toNat)) else none) else (some s)) := by kernel_rfl
noncomputable def spec_l1Plain.S : Abs.Sum := ⟨spec_l1Plain.P, spec_l1Plain.R, fun _ => Fn spec_l1Plain.E spec_l1Plain.T spec_l1Plain.C spec_l1Plain.P spec_l1Plain.R spec_l1Plain.X⟩
theorem spec_l1Plain.meets : Meets Try.prog 222 spec_l1Plain.S := meets_tab (S := spec_l1Plain.U) tabOk_all (AllMeets.cons spec_l1Ends.meets AllMeets.nil) (AllStill.cons (fun _ _ _ => rfl) AllStill.nil) follows (by kernel_rfl : Try.prog.funcs[222]? = some Try.f222) (by kernel_rfl) (by kernel_rfl) (by kernel_rfl)
noncomputable def spec_l1Cur_other.C : Code := Try.f197.body.getD .skip
def spec_l1Cur_other.P : Par := (.cons (.box 0 (.pair (.list (.int .u8)) (.pair (.int .i64) (.one (.int .u64))))) (.cons (.val (.list .str)) .nil))
noncomputable def spec_l1Cur_other.U : SumTab := [(122, [], spec_l1OwnT.S), (116, [], spec_l1Cur_pick.S), (160, [], spec_l1Ends.S), (210, [], spec_l1Cur_line.S), (150, [], spec_l1Whole.S), (196, [], spec_l1Cur_one.S), (222, [], spec_l1Plain.S)]
def spec_l1Cur_other.Z : List (Nat × List Nat) := [(8, [5]), (11, [5])]
noncomputable def spec_l1Cur_other.E : Env := mkEnvZ TY AR spec_l1Cur_other.U spec_l1Cur_other.Z
def spec_l1Cur_other.D6 : CutD := ⟨[0, 1, 5, 6], (.cons (.box 0 (.pair (.list (.int .u8)) (.pair (.int .i64) (.one (.int .u64))))) (.cons (.val (.list .str)) (.cons (.own 8 .str) (.cons (.val (.int .i64)) .nil))))⟩
def spec_l1Cur_other.D9 : CutD := ⟨[0, 1, 5, 6], (.cons (.box 0 (.pair (.list (.int .u8)) (.pair (.int .i64) (.one (.int .u64))))) (.cons (.val (.list .str)) (.cons (.own 8 .str) (.cons (.val (.int .i64)) .nil))))⟩
def spec_l1Cur_other.D43 : CutD := ⟨[0, 1, 5], (.cons (.box 0 (.pair (.list (.int .u8)) (.pair (.int .i64) (.one (.int .u64))))) (.cons (.val (.list .str)) (.cons (.own 8 .str) .nil)))⟩
noncomputable def spec_l1Cur_other.T : Tab := fun k => look k [(6, spec_l1Cur_other.D6), (9, spec_l1Cur_other.D9), (43, spec_l1Cur_other.D43)]
def spec_l1Cur_other.R : List (Nat × Ty) := [(9, .list .str)]
def spec_l1Cur_other.X : List ResultVar := [.tmp 4]
noncomputable def spec_l1Cur_other.K := fin spec_l1Cur_other.E ⟨spec_l1Cur_other.P, spec_l1Cur_other.R, fun _ _ => none⟩ spec_l1Cur_other.X spec_l1Cur_other.P.len 0
noncomputable def spec_l1Cur_other.l6 (c : (List Int) × Int × Int) (a : List ByteArray) (b : List ByteArray) (n : Int) : Option ((List ByteArray) × ((List Int) × Int × Int)) := fixP spec_l1Cur_other.E spec_l1Cur_other.T spec_l1Cur_other.C spec_l1Cur_other.K 6 spec_l1Cur_other.D6 (c, a, b, n)
noncomputable def spec_l1Cur_other.l9 (c : (List Int) × Int × Int) (a : List ByteArray) (b : List ByteArray) (n : Int) : Option ((List ByteArray) × ((List Int) × Int × Int)) := fixP spec_l1Cur_other.E spec_l1Cur_other.T spec_l1Cur_other.C spec_l1Cur_other.K 9 spec_l1Cur_other.D9 (c, a, b, n)
noncomputable def spec_l1Cur_other.l43 (c : (List Int) × Int × Int) (a : List ByteArray) (b : List ByteArray) : Option ((List ByteArray) × ((List Int) × Int × Int)) := fixP spec_l1Cur_other.E spec_l1Cur_other.T spec_l1Cur_other.C spec_l1Cur_other.K 43 spec_l1Cur_other.D43 (c, a, b)
noncomputable def spec_l1Cur_other.f (c : (List Int) × Int × Int) (a : List ByteArray) : Option ((List ByteArray) × ((List Int) × Int × Int)) := Fn spec_l1Cur_other.E spec_l1Cur_other.T spec_l1Cur_other.C spec_l1Cur_other.P spec_l1Cur_other.R spec_l1Cur_other.X (c, a)
theorem spec_l1Cur_other.l6_eq (c : (List Int) × Int × Int) (a : List ByteArray) (b : List ByteArray) (n : Int) : spec_l1Cur_other.l6 c a b n =
  (bif (decide (n > 0)) then ((spec_l1Cur_pick.f c (w64 ((b.length : Int) + 1))).bind fun y5 =>
   (spec_l1Cur_pick.f y5.2 3).bind fun y6 =>
   bif (decide (y6.1 = 0)) then (bif (decide (y5.1 < (b.length : Int))) then (bif ((decide (0 ≤ y5.1)) && (decide (y5.1 ≤ (b.length : Int)))) then ((spec_l1OwnT.f (b.take (y5.1).toNat)).bind fun y7 =>
      bif ((decide (0 ≤ (w64 (y5.1 + 1)))) && (decide ((w64 (y5.1 + 1)) ≤ (b.length : Int)))) then (bif (decide ((y7.length + (b.drop ((w64 (y5.1 + 1))).toNat).length) ≤ room 16)) then (spec_l1Cur_other.l9 y6.2 a (y7 ++ (b.drop ((w64 (y5.1 + 1))).toNat)) n) else none) else none) else none) else
    (spec_l1Cur_other.l9 y6.2 a b n)) else
   (bif (decide (y6.1 = 1)) then (bif (decide (y5.1 < (b.length : Int))) then (bif ((decide (0 ≤ y5.1)) && (decide (y5.1 < (b.length : Int)))) then ((spec_l1Ends.f (b.getD (y5.1).toNat em)).bind fun y7 =>
       bif y7 then ((spec_l1Cur_line.f y6.2).bind fun y8 =>
        bif (decide ((y8.1.size + (⟨#[10]⟩ : ByteArray).size) ≤ 9223372036854775807)) then (bif ((decide (0 ≤ y5.1)) && (decide (y5.1 < (b.length : Int)))) then (spec_l1Cur_other.l9 y8.2 a (b.set (y5.1).toNat (y8.1 ++ (⟨#[10]⟩ : ByteArray))) n) else none) else none) else
       (spec_l1Cur_other.l9 y6.2 a b n)) else none) else
     (spec_l1Cur_other.l9 y6.2 a b n)) else
    (bif (decide (y5.1 < (b.length : Int))) then (bif ((decide (0 ≤ y5.1)) && (decide (y5.1 ≤ (b.length : Int)))) then ((spec_l1OwnT.f (b.take (y5.1).toNat)).bind fun y7 =>
       (spec_l1Cur_line.f y6.2).bind fun y8 =>
       bif (decide ((y8.1.size + (⟨#[10]⟩ : ByteArray).size) ≤ 9223372036854775807)) then (bif (decide ((y7.length + [(y8.1 ++ (⟨#[10]⟩ : ByteArray))].length) ≤ room 16)) then (bif ((decide (0 ≤ y5.1)) && (decide (y5.1 ≤ (b.length : Int)))) then (bif (decide (((y7 ++ [(y8.1 ++ (⟨#[10]⟩ : ByteArray))]).length + (b.drop (y5.1).toNat).length) ≤ room 16)) then (spec_l1Cur_other.l9 y8.2 a ((y7 ++ [(y8.1 ++ (⟨#[10]⟩ : ByteArray))]) ++ (b.drop (y5.1).toNat)) n) else none) else none) else none) else none) else none) else
     ((spec_l1Whole.f b).bind fun y7 =>
      bif y7 then (bif ((decide (0 ≤ y5.1)) && (decide (y5.1 ≤ (b.length : Int)))) then ((spec_l1OwnT.f (b.take (y5.1).toNat)).bind fun y8 =>
        (spec_l1Cur_line.f y6.2).bind fun y9 =>
        bif (decide ((y9.1.size + (⟨#[10]⟩ : ByteArray).size) ≤ 9223372036854775807)) then (bif (decide ((y8.length + [(y9.1 ++ (⟨#[10]⟩ : ByteArray))].length) ≤ room 16)) then (bif ((decide (0 ≤ y5.1)) && (decide (y5.1 ≤ (b.length : Int)))) then (bif (decide (((y8 ++ [(y9.1 ++ (⟨#[10]⟩ : ByteArray))]).length + (b.drop (y5.1).toNat).length) ≤ room 16)) then (spec_l1Cur_other.l9 y9.2 a ((y8 ++ [(y9.1 ++ (⟨#[10]⟩ : ByteArray))]) ++ (b.drop (y5.1).toNat)) n) else none) else none) else none) else none) else none) else
      (spec_l1Cur_other.l9 y6.2 a b n))))) else
  (bif (decide ((b.length : Int) > 0)) then ((spec_l1Cur_one.f c 6).bind fun y5 =>
    bif y5.1 then (bif ((decide (0 ≤ (w64 ((b.length : Int) - 1)))) && (decide ((w64 ((b.length : Int) - 1)) < (b.length : Int)))) then ((spec_l1Plain.f (b.getD ((w64 ((b.length : Int) - 1))).toNat em)).bind fun y6 =>
      bif ((decide (0 ≤ (w64 ((b.length : Int) - 1)))) && (decide ((w64 ((b.length : Int) - 1)) < (b.length : Int)))) then ((spec_l1Ends.f (b.getD ((w64 ((b.length : Int) - 1))).toNat em)).bind fun y7 =>
       bif (!y7) then (bif (decide ((y6.size + (⟨#[10]⟩ : ByteArray).size) ≤ 9223372036854775807)) then (bif ((decide (0 ≤ (w64 ((b.length : Int) - 1)))) && (decide ((w64 ((b.length : Int) - 1)) < (b.length : Int)))) then (spec_l1Cur_other.l43 y5.2 a (b.set ((w64 ((b.length : Int) - 1))).toNat (y6 ++ (⟨#[10]⟩ : ByteArray)))) else none) else none) else
       (bif (!(y6.toList == em.toList)) then (bif ((decide (0 ≤ (w64 ((b.length : Int) - 1)))) && (decide ((w64 ((b.length : Int) - 1)) < (b.length : Int)))) then (spec_l1Cur_other.l43 y5.2 a (b.set ((w64 ((b.length : Int) - 1))).toNat y6)) else none) else
        (spec_l1Cur_other.l43 y5.2 a b))) else none) else none) else
    (spec_l1Cur_other.l43 y5.2 a b)) else
   (spec_l1Cur_other.l43 c a b))) :=
  (fixP_eq spec_l1Cur_other.E spec_l1Cur_other.T spec_l1Cur_other.C spec_l1Cur_other.K 6 spec_l1Cur_other.D6 (c, a, b, n)).trans (by kernel_rfl)
theorem spec_l1Cur_other.l9_eq (c : (List Int) × Int × Int) (a : List ByteArray) (b : List ByteArray) (n : Int) : spec_l1Cur_other.l9 c a b n =
  (spec_l1Cur_other.l6 c a b (w64 (n - 1))) :=
  (fixP_eq spec_l1Cur_other.E spec_l1Cur_other.T spec_l1Cur_other.C spec_l1Cur_other.K 9 spec_l1Cur_other.D9 (c, a, b, n)).trans (by kernel_rfl)
theorem spec_l1Cur_other.l43_eq (c : (List Int) × Int × Int) (a : List ByteArray) (b : List ByteArray) : spec_l1Cur_other.l43 c a b =
  (some (b, c)) :=
  (fixP_eq spec_l1Cur_other.E spec_l1Cur_other.T spec_l1Cur_other.C spec_l1Cur_other.K 43 spec_l1Cur_other.D43 (c, a, b)).trans (by kernel_rfl)
theorem spec_l1Cur_other.f_eq (c : (List Int) × Int × Int) (a : List ByteArray) : spec_l1Cur_other.f c a =
  ((spec_l1OwnT.f a).bind fun y5 =>
  (spec_l1Cur_pick.f c 4).bind fun y6 =>
  spec_l1Cur_other.l6 y6.2 a y5 y6.1) := by kernel_rfl
noncomputable def spec_l1Cur_other.S : Abs.Sum := ⟨spec_l1Cur_other.P, spec_l1Cur_other.R, fun _ => Fn spec_l1Cur_other.E spec_l1Cur_other.T spec_l1Cur_other.C spec_l1Cur_other.P spec_l1Cur_other.R spec_l1Cur_other.X⟩
theorem spec_l1Cur_other.meets : Meets Try.prog 197 spec_l1Cur_other.S := meets_tabZ spec_l1Cur_other.Z (S := spec_l1Cur_other.U) tabOk_all (AllMeets.cons spec_l1OwnT.meets (AllMeets.cons spec_l1Cur_pick.meets (AllMeets.cons spec_l1Ends.meets (AllMeets.cons spec_l1Cur_line.meets (AllMeets.cons spec_l1Whole.meets (AllMeets.cons spec_l1Cur_one.meets (AllMeets.cons spec_l1Plain.meets AllMeets.nil))))))) (AllStill.cons (fun _ _ _ => rfl) (AllStill.cons (fun _ _ _ => rfl) (AllStill.cons (fun _ _ _ => rfl) (AllStill.cons (fun _ _ _ => rfl) (AllStill.cons (fun _ _ _ => rfl) (AllStill.cons (fun _ _ _ => rfl) (AllStill.cons (fun _ _ _ => rfl) AllStill.nil))))))) follows (by kernel_rfl : Try.prog.funcs[197]? = some Try.f197) (by kernel_rfl) (by kernel_rfl) (by kernel_rfl)
noncomputable def spec_l1Cur_versions.C : Code := Try.f169.body.getD .skip
def spec_l1Cur_versions.P : Par := (.cons (.box 0 (.pair (.list (.int .u8)) (.pair (.int .i64) (.one (.int .u64))))) .nil)
noncomputable def spec_l1Cur_versions.U : SumTab := [(170, [], spec_l1Cur_text.S), (116, [], spec_l1Cur_pick.S), (197, [], spec_l1Cur_other.S)]
def spec_l1Cur_versions.Z : List (Nat × List Nat) := [(1000007, [1]), (1000023, [1]), (1000046, [1])]
noncomputable def spec_l1Cur_versions.E : Env := mkEnvZ TY AR spec_l1Cur_versions.U spec_l1Cur_versions.Z
def spec_l1Cur_versions.D6 : CutD := ⟨[0, 3, 4], (.cons (.box 0 (.pair (.list (.int .u8)) (.pair (.int .i64) (.one (.int .u64))))) (.cons (.own 0 (.list .str)) (.cons (.val (.int .i64)) .nil)))⟩
def spec_l1Cur_versions.D24 : CutD := ⟨[0, 3], (.cons (.box 0 (.pair (.list (.int .u8)) (.pair (.int .i64) (.one (.int .u64))))) (.cons (.own 0 (.list .str)) .nil))⟩
noncomputable def spec_l1Cur_versions.T : Tab := fun k => look k [(6, spec_l1Cur_versions.D6), (24, spec_l1Cur_versions.D24)]
def spec_l1Cur_versions.R : List (Nat × Ty) := [(1, .list (.list .str))]
def spec_l1Cur_versions.X : List ResultVar := [.tmp 2]
noncomputable def spec_l1Cur_versions.K := fin spec_l1Cur_versions.E ⟨spec_l1Cur_versions.P, spec_l1Cur_versions.R, fun _ _ => none⟩ spec_l1Cur_versions.X spec_l1Cur_versions.P.len 0
noncomputable def spec_l1Cur_versions.l6 (c : (List Int) × Int × Int) (v : List (List ByteArray)) (n : Int) : Option ((List (List ByteArray)) × ((List Int) × Int × Int)) := fixP spec_l1Cur_versions.E spec_l1Cur_versions.T spec_l1Cur_versions.C spec_l1Cur_versions.K 6 spec_l1Cur_versions.D6 (c, v, n)
noncomputable def spec_l1Cur_versions.l24 (c : (List Int) × Int × Int) (v : List (List ByteArray)) : Option ((List (List ByteArray)) × ((List Int) × Int × Int)) := fixP spec_l1Cur_versions.E spec_l1Cur_versions.T spec_l1Cur_versions.C spec_l1Cur_versions.K 24 spec_l1Cur_versions.D24 (c, v)
noncomputable def spec_l1Cur_versions.f (c : (List Int) × Int × Int) : Option ((List (List ByteArray)) × ((List Int) × Int × Int)) := Fn spec_l1Cur_versions.E spec_l1Cur_versions.T spec_l1Cur_versions.C spec_l1Cur_versions.P spec_l1Cur_versions.R spec_l1Cur_versions.X c
theorem spec_l1Cur_versions.l6_eq (c : (List Int) × Int × Int) (v : List (List ByteArray)) (n : Int) : spec_l1Cur_versions.l6 c v n =
  (bif (decide (n > 0)) then (bif ((decide (0 ≤ (w64 ((v.length : Int) - 1)))) && (decide ((w64 ((v.length : Int) - 1)) < (v.length : Int)))) then ((spec_l1Cur_other.f c (v.getD ((w64 ((v.length : Int) - 1))).toNat ([] : List ByteArray))).bind fun y7 =>
    bif (decide ((v.length + [y7.1].length) ≤ room 24)) then (spec_l1Cur_versions.l6 y7.2 (v ++ [y7.1]) (w64 (n - 1))) else none) else none) else
  ((spec_l1Cur_pick.f c 30).bind fun y7 =>
   bif (decide (y7.1 = 0)) then (some (([] : List (List ByteArray)), y7.2)) else
   (bif (decide (y7.1 = 1)) then (bif (decide (0 < (v.length : Int))) then (some ((v.set 0 [(⟨#[97]⟩ : ByteArray), (⟨#[98]⟩ : ByteArray)]), y7.2)) else none) else
    (bif (decide (y7.1 = 2)) then (spec_l1Cur_versions.l24 y7.2 v) else (some (v, y7.2)))))) :=
  (fixP_eq spec_l1Cur_versions.E spec_l1Cur_versions.T spec_l1Cur_versions.C spec_l1Cur_versions.K 6 spec_l1Cur_versions.D6 (c, v, n)).trans (by kernel_rfl)
theorem spec_l1Cur_versions.l24_eq (c : (List Int) × Int × Int) (v : List (List ByteArray)) : spec_l1Cur_versions.l24 c v =
  ((spec_l1Cur_pick.f c 2).bind fun y7 =>
  bif (decide ((v.length : Int) < (w64 (8 + y7.1)))) then (bif (decide (0 < (v.length : Int))) then (bif (decide ((v.length + [(v.getD 0 ([] : List ByteArray))].length) ≤ room 24)) then (spec_l1Cur_versions.l24 y7.2 (v ++ [(v.getD 0 ([] : List ByteArray))])) else none) else none) else (some (v, y7.2))) :=
  (fixP_eq spec_l1Cur_versions.E spec_l1Cur_versions.T spec_l1Cur_versions.C spec_l1Cur_versions.K 24 spec_l1Cur_versions.D24 (c, v)).trans (by kernel_rfl)
theorem spec_l1Cur_versions.f_eq (c : (List Int) × Int × Int) : spec_l1Cur_versions.f c =
  ((spec_l1Cur_text.f c).bind fun y7 =>
  (spec_l1Cur_pick.f y7.2 4).bind fun y8 =>
  spec_l1Cur_versions.l6 y8.2 [y7.1] y8.1) := by kernel_rfl
noncomputable def spec_l1Cur_versions.S : Abs.Sum := ⟨spec_l1Cur_versions.P, spec_l1Cur_versions.R, fun _ => Fn spec_l1Cur_versions.E spec_l1Cur_versions.T spec_l1Cur_versions.C spec_l1Cur_versions.P spec_l1Cur_versions.R spec_l1Cur_versions.X⟩
theorem spec_l1Cur_versions.meets : Meets Try.prog 169 spec_l1Cur_versions.S := meets_tabZ spec_l1Cur_versions.Z (S := spec_l1Cur_versions.U) tabOk_all (AllMeets.cons spec_l1Cur_text.meets (AllMeets.cons spec_l1Cur_pick.meets (AllMeets.cons spec_l1Cur_other.meets AllMeets.nil))) (AllStill.cons (fun _ _ _ => rfl) (AllStill.cons (fun _ _ _ => rfl) (AllStill.cons (fun _ _ _ => rfl) AllStill.nil))) follows (by kernel_rfl : Try.prog.funcs[169]? = some Try.f169) (by kernel_rfl) (by kernel_rfl) (by kernel_rfl)
noncomputable def spec_l12Good.C : Code := Try.f121.body.getD .skip
def spec_l12Good.P : Par := (.cons (.val (.list (.list .str))) .nil)
noncomputable def spec_l12Good.U : SumTab := [(84, [], spec_l1Good.S), (113, [], spec_l1In.S)]
noncomputable def spec_l12Good.E : Env := mkEnv TY AR spec_l12Good.U
def spec_l12Good.D4 : CutD := ⟨[0, 5, 6, 7], (.cons (.val (.list (.list .str))) (.cons (.val (.list (.list .str))) (.cons (.val (.int .i64)) (.cons (.val (.int .i64)) .nil))))⟩
noncomputable def spec_l12Good.T : Tab := fun k => look k [(4, spec_l12Good.D4)]
def spec_l12Good.R : List (Nat × Ty) := [(0, .bool)]
def spec_l12Good.X : List ResultVar := [.tmp 2]
noncomputable def spec_l12Good.K := fin spec_l12Good.E ⟨spec_l12Good.P, spec_l12Good.R, fun _ _ => none⟩ spec_l12Good.X spec_l12Good.P.len 0
noncomputable def spec_l12Good.l4 (v : List (List ByteArray)) (t5 : List (List ByteArray)) (t6 : Int) (t7 : Int) : Option (Bool) := fixP spec_l12Good.E spec_l12Good.T spec_l12Good.C spec_l12Good.K 4 spec_l12Good.D4 (v, t5, t6, t7)
noncomputable def spec_l12Good.f (v : List (List ByteArray)) : Option (Bool) := Fn spec_l12Good.E spec_l12Good.T spec_l12Good.C spec_l12Good.P spec_l12Good.R spec_l12Good.X v
theorem spec_l12Good.l4_eq (v : List (List ByteArray)) (t5 : List (List ByteArray)) (t6 : Int) (t7 : Int) : spec_l12Good.l4 v t5 t6 t7 =
  (bif (decide (t7 < t6)) then (bif ((decide (0 ≤ t7)) && (decide (t7 < (t5.length : Int)))) then ((spec_l1Good.f (t5.getD (t7).toNat ([] : List ByteArray))).bind fun y7 =>
    bif (!y7) then (some false) else
    (spec_l12Good.l4 v t5 t6 (w64 (t7 + 1)))) else none) else
  ((spec_l1In.f (v.length : Int) 1 8).bind fun y7 =>
   some y7)) :=
  (fixP_eq spec_l12Good.E spec_l12Good.T spec_l12Good.C spec_l12Good.K 4 spec_l12Good.D4 (v, t5, t6, t7)).trans (by kernel_rfl)
theorem spec_l12Good.f_eq (v : List (List ByteArray)) : spec_l12Good.f v =
  (spec_l12Good.l4 v v (v.length : Int) 0) := by kernel_rfl
noncomputable def spec_l12Good.S : Abs.Sum := ⟨spec_l12Good.P, spec_l12Good.R, fun _ => Fn spec_l12Good.E spec_l12Good.T spec_l12Good.C spec_l12Good.P spec_l12Good.R spec_l12Good.X⟩
theorem spec_l12Good.meets : Meets Try.prog 121 spec_l12Good.S := meets_tab (S := spec_l12Good.U) tabOk_all (AllMeets.cons spec_l1Good.meets (AllMeets.cons spec_l1In.meets AllMeets.nil)) (AllStill.cons (fun _ _ _ => rfl) (AllStill.cons (fun _ _ _ => rfl) AllStill.nil)) follows (by kernel_rfl : Try.prog.funcs[121]? = some Try.f121) (by kernel_rfl) (by kernel_rfl) (by kernel_rfl)
noncomputable def spec_SeriesOf.C : Code := Try.f45.body.getD .skip
def spec_SeriesOf.P : Par := (.cons (.val (.list (.list .str))) .nil)
noncomputable def spec_SeriesOf.U : SumTab := [(121, [], spec_l12Good.S), (122, [], spec_l1OwnT.S), (85, [], spec_DiffHunks.S)]
noncomputable def spec_SeriesOf.E : Env := mkEnv TY AR spec_SeriesOf.U
def spec_SeriesOf.D10 : CutD := ⟨[0, 2, 4, 5], (.cons (.val (.list (.list .str))) (.cons (.box 9 (.pair (.list .str) (.one (.list (.list (.pair (.int .i64) (.pair (.int .i64) (.one (.list .str))))))))) (.cons (.box 9 (.pair (.list .str) (.one (.list (.list (.pair (.int .i64) (.pair (.int .i64) (.one (.list .str))))))))) (.cons (.val (.int .i64)) .nil))))⟩
noncomputable def spec_SeriesOf.T : Tab := fun k => look k [(10, spec_SeriesOf.D10)]
def spec_SeriesOf.R : List (Nat × Ty) := [(9, .pair (.list .str) (.one (.list (.list (.pair (.int .i64) (.pair (.int .i64) (.one (.list .str)))))))), (0, .bool)]
def spec_SeriesOf.X : List ResultVar := [.cell 2 30, .tmp 3]
noncomputable def spec_SeriesOf.K := fin spec_SeriesOf.E ⟨spec_SeriesOf.P, spec_SeriesOf.R, fun _ _ => none⟩ spec_SeriesOf.X spec_SeriesOf.P.len 0
noncomputable def spec_SeriesOf.l10 (v : List (List ByteArray)) (t2 : (List ByteArray) × List (List (Int × Int × List ByteArray))) (out : (List ByteArray) × List (List (Int × Int × List ByteArray))) (n : Int) : Option (((List ByteArray) × List (List (Int × Int × List ByteArray))) × Bool) := fixP spec_SeriesOf.E spec_SeriesOf.T spec_SeriesOf.C spec_SeriesOf.K 10 spec_SeriesOf.D10 (v, t2, out, n)
noncomputable def spec_SeriesOf.f (v : List (List ByteArray)) : Option (((List ByteArray) × List (List (Int × Int × List ByteArray))) × Bool) := Fn spec_SeriesOf.E spec_SeriesOf.T spec_SeriesOf.C spec_SeriesOf.P spec_SeriesOf.R spec_SeriesOf.X v
theorem spec_SeriesOf.l10_eq (v : List (List ByteArray)) (t2 : (List ByteArray) × List (List (Int × Int × List ByteArray))) (out : (List ByteArray) × List (List (Int × Int × List ByteArray))) (n : Int) : spec_SeriesOf.l10 v t2 out n =
  (bif (decide (n < (v.length : Int))) then (bif ((decide (0 ≤ (w64 (n - 1)))) && (decide ((w64 (n - 1)) < (v.length : Int)))) then (bif ((decide (0 ≤ n)) && (decide (n < (v.length : Int)))) then ((spec_DiffHunks.f (v.getD ((w64 (n - 1))).toNat ([] : List ByteArray)) (v.getD (n).toNat ([] : List ByteArray))).bind fun y7 =>
     bif (!y7.2) then (some ((([] : List ByteArray), ([] : List (List (Int × Int × List ByteArray)))), false)) else
     (bif (decide ((out.2.length + [y7.1].length) ≤ room 24)) then (spec_SeriesOf.l10 v (t2.1, t2.2) (out.1, (out.2 ++ [y7.1])) (w64 (n + 1))) else none)) else none) else none) else (some ((out.1, out.2), true))) :=
  (fixP_eq spec_SeriesOf.E spec_SeriesOf.T spec_SeriesOf.C spec_SeriesOf.K 10 spec_SeriesOf.D10 (v, t2, out, n)).trans (by kernel_rfl)
theorem spec_SeriesOf.f_eq (v : List (List ByteArray)) : spec_SeriesOf.f v =
  ((spec_l12Good.f v).bind fun y7 =>
  bif (!y7) then (some ((([] : List ByteArray), ([] : List (List (Int × Int × List ByteArray)))), false)) else
  (bif (decide (0 < (v.length : Int))) then ((spec_l1OwnT.f (v.getD 0 ([] : List ByteArray))).bind fun y8 =>
    spec_SeriesOf.l10 v (([] : List ByteArray), ([] : List (List (Int × Int × List ByteArray)))) (y8, ([] : List (List (Int × Int × List ByteArray)))) 1) else none)) := by kernel_rfl
noncomputable def spec_SeriesOf.S : Abs.Sum := ⟨spec_SeriesOf.P, spec_SeriesOf.R, fun _ => Fn spec_SeriesOf.E spec_SeriesOf.T spec_SeriesOf.C spec_SeriesOf.P spec_SeriesOf.R spec_SeriesOf.X⟩
theorem spec_SeriesOf.meets : Meets Try.prog 45 spec_SeriesOf.S := meets_tab (S := spec_SeriesOf.U) tabOk_all (AllMeets.cons spec_l12Good.meets (AllMeets.cons spec_l1OwnT.meets (AllMeets.cons spec_DiffHunks.meets AllMeets.nil))) (AllStill.cons (fun _ _ _ => rfl) (AllStill.cons (fun _ _ _ => rfl) (AllStill.cons (fun _ _ _ => rfl) AllStill.nil))) follows (by kernel_rfl : Try.prog.funcs[45]? = some Try.f45) (by kernel_rfl) (by kernel_rfl) (by kernel_rfl)
noncomputable def spec_l1Cur_series.C : Code := Try.f99.body.getD .skip
def spec_l1Cur_series.P : Par := (.cons (.box 0 (.pair (.list (.int .u8)) (.pair (.int .i64) (.one (.int .u64))))) .nil)
noncomputable def spec_l1Cur_series.U : SumTab := [(169, [], spec_l1Cur_versions.S), (45, [], spec_SeriesOf.S), (116, [], spec_l1Cur_pick.S)]
noncomputable def spec_l1Cur_series.E : Env := mkEnv TY AR spec_l1Cur_series.U
noncomputable def spec_l1Cur_series.T : Tab := fun k => look k []
def spec_l1Cur_series.R : List (Nat × Ty) := [(9, .pair (.list .str) (.one (.list (.list (.pair (.int .i64) (.pair (.int .i64) (.one (.list .str))))))))]
def spec_l1Cur_series.X : List ResultVar := [.cell 2 30]
noncomputable def spec_l1Cur_series.f (c : (List Int) × Int × Int) : Option (((List ByteArray) × List (List (Int × Int × List ByteArray))) × ((List Int) × Int × Int)) := Fn spec_l1Cur_series.E spec_l1Cur_series.T spec_l1Cur_series.C spec_l1Cur_series.P spec_l1Cur_series.R spec_l1Cur_series.X c
theorem spec_l1Cur_series.f_eq (c : (List Int) × Int × Int) : spec_l1Cur_series.f c =
  ((spec_l1Cur_versions.f c).bind fun y7 =>
  (spec_SeriesOf.f y7.1).bind fun y8 =>
  bif (decide ((y8.1.2.length : Int) > 0)) then ((spec_l1Cur_pick.f y7.2 (y8.1.2.length : Int)).bind fun y9 =>
   (spec_l1Cur_pick.f y9.2 20).bind fun y10 =>
   bif (decide (y10.1 = 0)) then (bif ((decide (0 ≤ y9.1)) && (decide (y9.1 < (y8.1.2.length : Int)))) then (bif (decide (((y8.1.2.getD (y9.1).toNat ([] : List (Int × Int × List ByteArray))).length + [(39, 3, ([] : List ByteArray))].length) ≤ room 40)) then (bif ((decide (0 ≤ y9.1)) && (decide ((y9.1).toNat = (y9.1).toNat))) then (bif (decide ((y9.1).toNat = (y9.1).toNat)) then (some ((y8.1.1, (y8.1.2.set (y9.1).toNat ((y8.1.2.getD (y9.1).toNat ([] : List (Int × Int × List ByteArray))) ++ [(39, 3, ([] : List ByteArray))]))), y10.2)) else none) else none) else none) else none) else
   (bif (decide (y10.1 = 1)) then (bif (decide ((y8.1.1.length + [(⟨#[122]⟩ : ByteArray)].length) ≤ room 16)) then (some (((y8.1.1 ++ [(⟨#[122]⟩ : ByteArray)]), y8.1.2), y10.2)) else none) else (some ((y8.1.1, y8.1.2), y10.2)))) else (some ((y8.1.1, y8.1.2), y7.2))) := by kernel_rfl
noncomputable def spec_l1Cur_series.S : Abs.Sum := ⟨spec_l1Cur_series.P, spec_l1Cur_series.R, fun _ => Fn spec_l1Cur_series.E spec_l1Cur_series.T spec_l1Cur_series.C spec_l1Cur_series.P spec_l1Cur_series.R spec_l1Cur_series.X⟩
theorem spec_l1Cur_series.meets : Meets Try.prog 99 spec_l1Cur_series.S := meets_tab (S := spec_l1Cur_series.U) tabOk_all (AllMeets.cons spec_l1Cur_versions.meets (AllMeets.cons spec_SeriesOf.meets (AllMeets.cons spec_l1Cur_pick.meets AllMeets.nil))) (AllStill.cons (fun _ _ _ => rfl) (AllStill.cons (fun _ _ _ => rfl) (AllStill.cons (fun _ _ _ => rfl) AllStill.nil))) follows (by kernel_rfl : Try.prog.funcs[99]? = some Try.f99) (by kernel_rfl) (by kernel_rfl) (by kernel_rfl)
noncomputable def spec_DrawGoodSeries.C : Code := Try.f96.body.getD .skip
def spec_DrawGoodSeries.P : Par := (.cons (.val (.list (.int .u8))) .nil)
noncomputable def spec_DrawGoodSeries.U : SumTab := [(99, [], spec_l1Cur_series.S)]
noncomputable def spec_DrawGoodSeries.E : Env := mkEnv TY AR spec_DrawGoodSeries.U
noncomputable def spec_DrawGoodSeries.T : Tab := fun k => look k []
def spec_DrawGoodSeries.R : List (Nat × Ty) := [(9, .pair (.list .str) (.one (.list (.list (.pair (.int .i64) (.pair (.int .i64) (.one (.list .str))))))))]
def spec_DrawGoodSeries.X : List ResultVar := [.cell 2 30]
noncomputable def spec_DrawGoodSeries.f (code : List Int) : Option (((List ByteArray) × List (List (Int × Int × List ByteArray)))) := Fn spec_DrawGoodSeries.E spec_DrawGoodSeries.T spec_DrawGoodSeries.C spec_DrawGoodSeries.P spec_DrawGoodSeries.R spec_DrawGoodSeries.X code
theorem spec_DrawGoodSeries.f_eq (code : List Int) : spec_DrawGoodSeries.f code =
  ((spec_l1Cur_series.f (code, 0, 0)).bind fun y7 =>
  some (y7.1.1, y7.1.2)) := by kernel_rfl
noncomputable def spec_DrawGoodSeries.S : Abs.Sum := ⟨spec_DrawGoodSeries.P, spec_DrawGoodSeries.R, fun _ => Fn spec_DrawGoodSeries.E spec_DrawGoodSeries.T spec_DrawGoodSeries.C spec_DrawGoodSeries.P spec_DrawGoodSeries.R spec_DrawGoodSeries.X⟩
theorem spec_DrawGoodSeries.meets : Meets Try.prog 96 spec_DrawGoodSeries.S := meets_tab (S := spec_DrawGoodSeries.U) tabOk_all (AllMeets.cons spec_l1Cur_series.meets AllMeets.nil) (AllStill.cons (fun _ _ _ => rfl) AllStill.nil) follows (by kernel_rfl : Try.prog.funcs[96]? = some Try.f96) (by kernel_rfl) (by kernel_rfl) (by kernel_rfl)
noncomputable def spec_DrawSizeOf.C : Code := Try.f22.body.getD .skip
def spec_DrawSizeOf.P : Par := (.cons (.val (.list (.int .u8))) .nil)
noncomputable def spec_DrawSizeOf.U : SumTab := [(96, [], spec_DrawGoodSeries.S)]
noncomputable def spec_DrawSizeOf.E : Env := mkEnv TY AR spec_DrawSizeOf.U
noncomputable def spec_DrawSizeOf.T : Tab := fun k => look k []
def spec_DrawSizeOf.R : List (Nat × Ty) := [(9, .pair (.list .str) (.one (.list (.list (.pair (.int .i64) (.pair (.int .i64) (.one (.list .str))))))))]
def spec_DrawSizeOf.X : List ResultVar := [.cell 2 30]
noncomputable def spec_DrawSizeOf.f (code : List Int) : Option (((List ByteArray) × List (List (Int × Int × List ByteArray)))) := Fn spec_DrawSizeOf.E spec_DrawSizeOf.T spec_DrawSizeOf.C spec_DrawSizeOf.P spec_DrawSizeOf.R spec_DrawSizeOf.X code
theorem spec_DrawSizeOf.f_eq (code : List Int) : spec_DrawSizeOf.f code =
  ((spec_DrawGoodSeries.f code).bind fun y7 =>
  some (y7.1, y7.2)) := by kernel_rfl
noncomputable def spec_DrawSizeOf.S : Abs.Sum := ⟨spec_DrawSizeOf.P, spec_DrawSizeOf.R, fun _ => Fn spec_DrawSizeOf.E spec_DrawSizeOf.T spec_DrawSizeOf.C spec_DrawSizeOf.P spec_DrawSizeOf.R spec_DrawSizeOf.X⟩
theorem spec_DrawSizeOf.meets : Meets Try.prog 22 spec_DrawSizeOf.S := meets_tab (S := spec_DrawSizeOf.U) tabOk_all (AllMeets.cons spec_DrawGoodSeries.meets AllMeets.nil) (AllStill.cons (fun _ _ _ => rfl) AllStill.nil) follows (by kernel_rfl : Try.prog.funcs[22]? = some Try.f22) (by kernel_rfl) (by kernel_rfl) (by kernel_rfl)
noncomputable def impl_GoodSeries.C : Code := Try.f46.body.getD .skip
def impl_GoodSeries.P : Par := (.cons (.val (.pair (.list .str) (.one (.list (.list (.pair (.int .i64) (.pair (.int .i64) (.one (.list .str))))))))) .nil)
noncomputable def impl_GoodSeries.U : SumTab := [(89, [], impl_Series_texts.S)]
noncomputable def impl_GoodSeries.E : Env := mkEnv TY AR impl_GoodSeries.U
noncomputable def impl_GoodSeries.T : Tab := fun k => look k []
def impl_GoodSeries.R : List (Nat × Ty) := [(0, .bool)]
def impl_GoodSeries.X : List ResultVar := [.tmp 2]
noncomputable def impl_GoodSeries.f (s : (List ByteArray) × List (List (Int × Int × List ByteArray))) : Option (Bool) := Fn impl_GoodSeries.E impl_GoodSeries.T impl_GoodSeries.C impl_GoodSeries.P impl_GoodSeries.R impl_GoodSeries.X s
theorem impl_GoodSeries.f_eq (s : (List ByteArray) × List (List (Int × Int × List ByteArray))) : impl_GoodSeries.f s =
  ((impl_Series_texts.f s).bind fun y7 =>
  some y7.2) := by kernel_rfl
noncomputable def impl_GoodSeries.S : Abs.Sum := ⟨impl_GoodSeries.P, impl_GoodSeries.R, fun _ => Fn impl_GoodSeries.E impl_GoodSeries.T impl_GoodSeries.C impl_GoodSeries.P impl_GoodSeries.R impl_GoodSeries.X⟩
theorem impl_GoodSeries.meets : Meets Try.prog 46 impl_GoodSeries.S := meets_tab (S := impl_GoodSeries.U) tabOk_all (AllMeets.cons impl_Series_texts.meets AllMeets.nil) (AllStill.cons (fun _ _ _ => rfl) AllStill.nil) follows (by kernel_rfl : Try.prog.funcs[46]? = some Try.f46) (by kernel_rfl) (by kernel_rfl) (by kernel_rfl)
noncomputable def impl_counts.C : Code := Try.f97.body.getD .skip
def impl_counts.P : Par := (.cons (.val (.list (.pair (.int .i64) (.pair (.int .i64) (.one (.list .str)))))) .nil)
noncomputable def impl_counts.U : SumTab := []
noncomputable def impl_counts.E : Env := mkEnv TY AR impl_counts.U
def impl_counts.D6 : CutD := ⟨[4, 5, 8, 9, 10], (.cons (.val (.int .i64)) (.cons (.val (.int .i64)) (.cons (.val (.list (.pair (.int .i64) (.pair (.int .i64) (.one (.list .str)))))) (.cons (.val (.int .i64)) (.cons (.val (.int .i64)) .nil)))))⟩
noncomputable def impl_counts.T : Tab := fun k => look k [(6, impl_counts.D6)]
def impl_counts.R : List (Nat × Ty) := [(0, .int .i64), (0, .int .i64)]
def impl_counts.X : List ResultVar := [.tmp 2, .tmp 3]
noncomputable def impl_counts.K := fin impl_counts.E ⟨impl_counts.P, impl_counts.R, fun _ _ => none⟩ impl_counts.X impl_counts.P.len 0
noncomputable def impl_counts.l6 (gone : Int) (come : Int) (t8 : List (Int × Int × List ByteArray)) (t9 : Int) (t10 : Int) : Option (Int × Int) := fixP impl_counts.E impl_counts.T impl_counts.C impl_counts.K 6 impl_counts.D6 (gone, come, t8, t9, t10)
noncomputable def impl_counts.f (h : List (Int × Int × List ByteArray)) : Option (Int × Int) := Fn impl_counts.E impl_counts.T impl_counts.C impl_counts.P impl_counts.R impl_counts.X h
theorem impl_counts.l6_eq (gone : Int) (come : Int) (t8 : List (Int × Int × List ByteArray)) (t9 : Int) (t10 : Int) : impl_counts.l6 gone come t8 t9 t10 =
  (bif (decide (t10 < t9)) then (bif ((decide (0 ≤ t10)) && (decide (t10 < (t8.length : Int)))) then (impl_counts.l6 (w64 (gone + (t8.getD (t10).toNat (0, 0, ([] : List ByteArray))).2.1)) (w64 (come + ((t8.getD (t10).toNat (0, 0, ([] : List ByteArray))).2.2.length : Int))) t8 t9 (w64 (t10 + 1))) else none) else (some (gone, come))) :=
  (fixP_eq impl_counts.E impl_counts.T impl_counts.C impl_counts.K 6 impl_counts.D6 (gone, come, t8, t9, t10)).trans (by kernel_rfl)
theorem impl_counts.f_eq (h : List (Int × Int × List ByteArray)) : impl_counts.f h =
  (impl_counts.l6 0 0 h (h.length : Int) 0) := by kernel_rfl
noncomputable def impl_counts.S : Abs.Sum := ⟨impl_counts.P, impl_counts.R, fun _ => Fn impl_counts.E impl_counts.T impl_counts.C impl_counts.P impl_counts.R impl_counts.X⟩
theorem impl_counts.meets : Meets Try.prog 97 impl_counts.S := meets_tab (S := impl_counts.U) tabOk_all AllMeets.nil AllStill.nil follows (by kernel_rfl : Try.prog.funcs[97]? = some Try.f97) (by kernel_rfl) (by kernel_rfl) (by kernel_rfl)
noncomputable def impl_SizeOf.C : Code := Try.f23.body.getD .skip
def impl_SizeOf.P : Par := (.cons (.val (.pair (.list .str) (.one (.list (.list (.pair (.int .i64) (.pair (.int .i64) (.one (.list .str))))))))) .nil)
noncomputable def impl_SizeOf.U : SumTab := [(46, [], impl_GoodSeries.S), (97, [], impl_counts.S)]
noncomputable def impl_SizeOf.E : Env := mkEnv TY AR impl_SizeOf.U
def impl_SizeOf.D10 : CutD := ⟨[4, 16, 17, 18], (.cons (.val (.int .i64)) (.cons (.val (.list (.list (.pair (.int .i64) (.pair (.int .i64) (.one (.list .str))))))) (.cons (.val (.int .i64)) (.cons (.val (.int .i64)) .nil))))⟩
noncomputable def impl_SizeOf.T : Tab := fun k => look k [(10, impl_SizeOf.D10)]
def impl_SizeOf.R : List (Nat × Ty) := [(0, .int .i64), (0, .bool)]
def impl_SizeOf.X : List ResultVar := [.tmp 2, .tmp 3]
noncomputable def impl_SizeOf.K := fin impl_SizeOf.E ⟨impl_SizeOf.P, impl_SizeOf.R, fun _ _ => none⟩ impl_SizeOf.X impl_SizeOf.P.len 0
noncomputable def impl_SizeOf.l10 (many : Int) (t16 : List (List (Int × Int × List ByteArray))) (t17 : Int) (t18 : Int) : Option (Int × Bool) := fixP impl_SizeOf.E impl_SizeOf.T impl_SizeOf.C impl_SizeOf.K 10 impl_SizeOf.D10 (many, t16, t17, t18)
noncomputable def impl_SizeOf.f (s : (List ByteArray) × List (List (Int × Int × List ByteArray))) : Option (Int × Bool) := Fn impl_SizeOf.E impl_SizeOf.T impl_SizeOf.C impl_SizeOf.P impl_SizeOf.R impl_SizeOf.X s
theorem impl_SizeOf.l10_eq (many : Int) (t16 : List (List (Int × Int × List ByteArray))) (t17 : Int) (t18 : Int) : impl_SizeOf.l10 many t16 t17 t18 =
  (bif (decide (t18 < t17)) then (bif ((decide (0 ≤ t18)) && (decide (t18 < (t16.length : Int)))) then ((impl_counts.f (t16.getD (t18).toNat ([] : List (Int × Int × List ByteArray)))).bind fun y7 =>
    impl_SizeOf.l10 (w64 (many + y7.2)) t16 t17 (w64 (t18 + 1))) else none) else (some (many, true))) :=
  (fixP_eq impl_SizeOf.E impl_SizeOf.T impl_SizeOf.C impl_SizeOf.K 10 impl_SizeOf.D10 (many, t16, t17, t18)).trans (by kernel_rfl)
theorem impl_SizeOf.f_eq (s : (List ByteArray) × List (List (Int × Int × List ByteArray))) : impl_SizeOf.f s =
  ((impl_GoodSeries.f s).bind fun y7 =>
  bif (!y7) then (some (0, false)) else
  (impl_SizeOf.l10 (s.1.length : Int) s.2 (s.2.length : Int) 0)) := by kernel_rfl
noncomputable def impl_SizeOf.S : Abs.Sum := ⟨impl_SizeOf.P, impl_SizeOf.R, fun _ => Fn impl_SizeOf.E impl_SizeOf.T impl_SizeOf.C impl_SizeOf.P impl_SizeOf.R impl_SizeOf.X⟩
theorem impl_SizeOf.meets : Meets Try.prog 23 impl_SizeOf.S := meets_tab (S := impl_SizeOf.U) tabOk_all (AllMeets.cons impl_GoodSeries.meets (AllMeets.cons impl_counts.meets AllMeets.nil)) (AllStill.cons (fun _ _ _ => rfl) (AllStill.cons (fun _ _ _ => rfl) AllStill.nil)) follows (by kernel_rfl : Try.prog.funcs[23]? = some Try.f23) (by kernel_rfl) (by kernel_rfl) (by kernel_rfl)
noncomputable def spec_SizeOf.C : Code := Try.f24.body.getD .skip
def spec_SizeOf.P : Par := (.cons (.val (.pair (.list .str) (.one (.list (.list (.pair (.int .i64) (.pair (.int .i64) (.one (.list .str))))))))) .nil)
noncomputable def spec_SizeOf.U : SumTab := [(83, [], spec_l13Good.S)]
noncomputable def spec_SizeOf.E : Env := mkEnv TY AR spec_SizeOf.U
def spec_SizeOf.D10 : CutD := ⟨[4, 16, 17, 18], (.cons (.val (.int .i64)) (.cons (.val (.list (.list (.pair (.int .i64) (.pair (.int .i64) (.one (.list .str))))))) (.cons (.val (.int .i64)) (.cons (.val (.int .i64)) .nil))))⟩
def spec_SizeOf.D16 : CutD := ⟨[4, 16, 17, 18, 22, 23, 24], (.cons (.val (.int .i64)) (.cons (.val (.list (.list (.pair (.int .i64) (.pair (.int .i64) (.one (.list .str))))))) (.cons (.val (.int .i64)) (.cons (.val (.int .i64)) (.cons (.val (.list (.pair (.int .i64) (.pair (.int .i64) (.one (.list .str)))))) (.cons (.val (.int .i64)) (.cons (.val (.int .i64)) .nil)))))))⟩
noncomputable def spec_SizeOf.T : Tab := fun k => look k [(10, spec_SizeOf.D10), (16, spec_SizeOf.D16)]
def spec_SizeOf.R : List (Nat × Ty) := [(0, .int .i64), (0, .bool)]
def spec_SizeOf.X : List ResultVar := [.tmp 2, .tmp 3]
noncomputable def spec_SizeOf.K := fin spec_SizeOf.E ⟨spec_SizeOf.P, spec_SizeOf.R, fun _ _ => none⟩ spec_SizeOf.X spec_SizeOf.P.len 0
noncomputable def spec_SizeOf.l10 (n : Int) (t16 : List (List (Int × Int × List ByteArray))) (t17 : Int) (t18 : Int) : Option (Int × Bool) := fixP spec_SizeOf.E spec_SizeOf.T spec_SizeOf.C spec_SizeOf.K 10 spec_SizeOf.D10 (n, t16, t17, t18)
noncomputable def spec_SizeOf.l16 (n : Int) (t16 : List (List (Int × Int × List ByteArray))) (t17 : Int) (t18 : Int) (t22 : List (Int × Int × List ByteArray)) (t23 : Int) (t24 : Int) : Option (Int × Bool) := fixP spec_SizeOf.E spec_SizeOf.T spec_SizeOf.C spec_SizeOf.K 16 spec_SizeOf.D16 (n, t16, t17, t18, t22, t23, t24)
noncomputable def spec_SizeOf.f (s : (List ByteArray) × List (List (Int × Int × List ByteArray))) : Option (Int × Bool) := Fn spec_SizeOf.E spec_SizeOf.T spec_SizeOf.C spec_SizeOf.P spec_SizeOf.R spec_SizeOf.X s
theorem spec_SizeOf.l10_eq (n : Int) (t16 : List (List (Int × Int × List ByteArray))) (t17 : Int) (t18 : Int) : spec_SizeOf.l10 n t16 t17 t18 =
  (bif (decide (t18 < t17)) then (bif ((decide (0 ≤ t18)) && (decide (t18 < (t16.length : Int)))) then (spec_SizeOf.l16 n t16 t17 t18 (t16.getD (t18).toNat ([] : List (Int × Int × List ByteArray))) ((t16.getD (t18).toNat ([] : List (Int × Int × List ByteArray))).length : Int) 0) else none) else (some (n, true))) :=
  (fixP_eq spec_SizeOf.E spec_SizeOf.T spec_SizeOf.C spec_SizeOf.K 10 spec_SizeOf.D10 (n, t16, t17, t18)).trans (by kernel_rfl)
theorem spec_SizeOf.l16_eq (n : Int) (t16 : List (List (Int × Int × List ByteArray))) (t17 : Int) (t18 : Int) (t22 : List (Int × Int × List ByteArray)) (t23 : Int) (t24 : Int) : spec_SizeOf.l16 n t16 t17 t18 t22 t23 t24 =
  (bif (decide (t24 < t23)) then (bif ((decide (0 ≤ t24)) && (decide (t24 < (t22.length : Int)))) then (spec_SizeOf.l16 (w64 (n + ((t22.getD (t24).toNat (0, 0, ([] : List ByteArray))).2.2.length : Int))) t16 t17 t18 t22 t23 (w64 (t24 + 1))) else none) else
  (spec_SizeOf.l10 n t16 t17 (w64 (t18 + 1)))) :=
  (fixP_eq spec_SizeOf.E spec_SizeOf.T spec_SizeOf.C spec_SizeOf.K 16 spec_SizeOf.D16 (n, t16, t17, t18, t22, t23, t24)).trans (by kernel_rfl)
theorem spec_SizeOf.f_eq (s : (List ByteArray) × List (List (Int × Int × List ByteArray))) : spec_SizeOf.f s =
  ((spec_l13Good.f s).bind fun y7 =>
  bif (!y7) then (some (0, false)) else
  (spec_SizeOf.l10 (s.1.length : Int) s.2 (s.2.length : Int) 0)) := by kernel_rfl
noncomputable def spec_SizeOf.S : Abs.Sum := ⟨spec_SizeOf.P, spec_SizeOf.R, fun _ => Fn spec_SizeOf.E spec_SizeOf.T spec_SizeOf.C spec_SizeOf.P spec_SizeOf.R spec_SizeOf.X⟩
theorem spec_SizeOf.meets : Meets Try.prog 24 spec_SizeOf.S := meets_tab (S := spec_SizeOf.U) tabOk_all (AllMeets.cons spec_l13Good.meets AllMeets.nil) (AllStill.cons (fun _ _ _ => rfl) AllStill.nil) follows (by kernel_rfl : Try.prog.funcs[24]? = some Try.f24) (by kernel_rfl) (by kernel_rfl) (by kernel_rfl)
noncomputable def impl_TextAt.C : Code := Try.f25.body.getD .skip
def impl_TextAt.P : Par := (.cons (.val (.pair (.list .str) (.one (.list (.list (.pair (.int .i64) (.pair (.int .i64) (.one (.list .str))))))))) (.cons (.val (.int .i64)) .nil))
noncomputable def impl_TextAt.U : SumTab := [(89, [], impl_Series_texts.S), (98, [], impl_in.S)]
def impl_TextAt.Z : List (Nat × List Nat) := [(4, [6])]
noncomputable def impl_TextAt.E : Env := mkEnvZ TY AR impl_TextAt.U impl_TextAt.Z
noncomputable def impl_TextAt.T : Tab := fun k => look k []
def impl_TextAt.R : List (Nat × Ty) := [(0, .list .str), (0, .bool)]
def impl_TextAt.X : List ResultVar := [.tmp 4, .tmp 5]
noncomputable def impl_TextAt.f (s : (List ByteArray) × List (List (Int × Int × List ByteArray))) (n : Int) : Option ((List ByteArray) × Bool) := Fn impl_TextAt.E impl_TextAt.T impl_TextAt.C impl_TextAt.P impl_TextAt.R impl_TextAt.X (s, n)
theorem impl_TextAt.f_eq (s : (List ByteArray) × List (List (Int × Int × List ByteArray))) (n : Int) : impl_TextAt.f s n =
  ((impl_Series_texts.f s).bind fun y13 =>
  bif (!y13.2) then (some (([] : List ByteArray), false)) else
  ((impl_in.f n 0 (s.2.length : Int)).bind fun y14 =>
   bif (!y14) then (some (([] : List ByteArray), false)) else
   (bif ((decide (0 ≤ n)) && (decide (n < (y13.1.length : Int)))) then (some ((y13.1.getD (n).toNat ([] : List ByteArray)), true)) else none))) := by kernel_rfl
noncomputable def impl_TextAt.S : Abs.Sum := ⟨impl_TextAt.P, impl_TextAt.R, fun _ => Fn impl_TextAt.E impl_TextAt.T impl_TextAt.C impl_TextAt.P impl_TextAt.R impl_TextAt.X⟩
theorem impl_TextAt.meets : Meets Try.prog 25 impl_TextAt.S := meets_tabZ impl_TextAt.Z (S := impl_TextAt.U) tabOk_all (AllMeets.cons impl_Series_texts.meets (AllMeets.cons impl_in.meets AllMeets.nil)) (AllStill.cons (fun _ _ _ => rfl) (AllStill.cons (fun _ _ _ => rfl) AllStill.nil)) follows (by kernel_rfl : Try.prog.funcs[25]? = some Try.f25) (by kernel_rfl) (by kernel_rfl) (by kernel_rfl)
noncomputable def spec_l1Cur_anyText.C : Code := Try.f100.body.getD .skip
def spec_l1Cur_anyText.P : Par := (.cons (.box 0 (.pair (.list (.int .u8)) (.pair (.int .i64) (.one (.int .u64))))) .nil)
noncomputable def spec_l1Cur_anyText.U : SumTab := [(170, [], spec_l1Cur_text.S), (116, [], spec_l1Cur_pick.S)]
noncomputable def spec_l1Cur_anyText.E : Env := mkEnv TY AR spec_l1Cur_anyText.U
noncomputable def spec_l1Cur_anyText.T : Tab := fun k => look k []
def spec_l1Cur_anyText.R : List (Nat × Ty) := [(9, .list .str)]
def spec_l1Cur_anyText.X : List ResultVar := [.tmp 2]
noncomputable def spec_l1Cur_anyText.f (c : (List Int) × Int × Int) : Option ((List ByteArray) × ((List Int) × Int × Int)) := Fn spec_l1Cur_anyText.E spec_l1Cur_anyText.T spec_l1Cur_anyText.C spec_l1Cur_anyText.P spec_l1Cur_anyText.R spec_l1Cur_anyText.X c
theorem spec_l1Cur_anyText.f_eq (c : (List Int) × Int × Int) : spec_l1Cur_anyText.f c =
  ((spec_l1Cur_text.f c).bind fun y13 =>
  bif (decide ((y13.1.length : Int) > 1)) then ((spec_l1Cur_pick.f y13.2 25).bind fun y14 =>
   bif (decide (y14.1 = 0)) then (bif (decide (0 < (y13.1.length : Int))) then (some ((y13.1.set 0 (⟨#[120]⟩ : ByteArray)), y14.2)) else none) else
   (bif (decide (y14.1 = 1)) then (bif (decide (0 < (y13.1.length : Int))) then (some ((y13.1.set 0 em), y14.2)) else none) else
    (bif (decide (y14.1 = 2)) then (bif (decide (0 < (y13.1.length : Int))) then (some ((y13.1.set 0 (⟨#[97, 10, 98, 10]⟩ : ByteArray)), y14.2)) else none) else (some (y13.1, y14.2))))) else (some (y13.1, y13.2))) := by kernel_rfl
noncomputable def spec_l1Cur_anyText.S : Abs.Sum := ⟨spec_l1Cur_anyText.P, spec_l1Cur_anyText.R, fun _ => Fn spec_l1Cur_anyText.E spec_l1Cur_anyText.T spec_l1Cur_anyText.C spec_l1Cur_anyText.P spec_l1Cur_anyText.R spec_l1Cur_anyText.X⟩
theorem spec_l1Cur_anyText.meets : Meets Try.prog 100 spec_l1Cur_anyText.S := meets_tab (S := spec_l1Cur_anyText.U) tabOk_all (AllMeets.cons spec_l1Cur_text.meets (AllMeets.cons spec_l1Cur_pick.meets AllMeets.nil)) (AllStill.cons (fun _ _ _ => rfl) (AllStill.cons (fun _ _ _ => rfl) AllStill.nil)) follows (by kernel_rfl : Try.prog.funcs[100]? = some Try.f100) (by kernel_rfl) (by kernel_rfl) (by kernel_rfl)
noncomputable def spec_DrawAddText.C : Code := Try.f26.body.getD .skip
def spec_DrawAddText.P : Par := (.cons (.val (.list (.int .u8))) .nil)
noncomputable def spec_DrawAddText.U : SumTab := [(99, [], spec_l1Cur_series.S), (100, [], spec_l1Cur_anyText.S)]
noncomputable def spec_DrawAddText.E : Env := mkEnv TY AR spec_DrawAddText.U
noncomputable def spec_DrawAddText.T : Tab := fun k => look k []
def spec_DrawAddText.R : List (Nat × Ty) := [(9, .pair (.list .str) (.one (.list (.list (.pair (.int .i64) (.pair (.int .i64) (.one (.list .str)))))))), (9, .list .str)]
def spec_DrawAddText.X : List ResultVar := [.cell 2 30, .tmp 3]
noncomputable def spec_DrawAddText.f (code : List Int) : Option (((List ByteArray) × List (List (Int × Int × List ByteArray))) × (List ByteArray)) := Fn spec_DrawAddText.E spec_DrawAddText.T spec_DrawAddText.C spec_DrawAddText.P spec_DrawAddText.R spec_DrawAddText.X code
theorem spec_DrawAddText.f_eq (code : List Int) : spec_DrawAddText.f code =
  ((spec_l1Cur_series.f (code, 0, 0)).bind fun y13 =>
  (spec_l1Cur_anyText.f y13.2).bind fun y14 =>
  some ((y13.1.1, y13.1.2), y14.1)) := by kernel_rfl
noncomputable def spec_DrawAddText.S : Abs.Sum := ⟨spec_DrawAddText.P, spec_DrawAddText.R, fun _ => Fn spec_DrawAddText.E spec_DrawAddText.T spec_DrawAddText.C spec_DrawAddText.P spec_DrawAddText.R spec_DrawAddText.X⟩
theorem spec_DrawAddText.meets : Meets Try.prog 26 spec_DrawAddText.S := meets_tab (S := spec_DrawAddText.U) tabOk_all (AllMeets.cons spec_l1Cur_series.meets (AllMeets.cons spec_l1Cur_anyText.meets AllMeets.nil)) (AllStill.cons (fun _ _ _ => rfl) (AllStill.cons (fun _ _ _ => rfl) AllStill.nil)) follows (by kernel_rfl : Try.prog.funcs[26]? = some Try.f26) (by kernel_rfl) (by kernel_rfl) (by kernel_rfl)
noncomputable def laws_sameTexts.C : Code := Try.f34.body.getD .skip
def laws_sameTexts.P : Par := (.cons (.val (.list .str)) (.cons (.val (.list .str)) .nil))
noncomputable def laws_sameTexts.U : SumTab := []
noncomputable def laws_sameTexts.E : Env := mkEnv TY AR laws_sameTexts.U
def laws_sameTexts.D8 : CutD := ⟨[0, 1, 12, 13], (.cons (.val (.list .str)) (.cons (.val (.list .str)) (.cons (.val (.int .i64)) (.cons (.val (.int .i64)) .nil))))⟩
noncomputable def laws_sameTexts.T : Tab := fun k => look k [(8, laws_sameTexts.D8)]
def laws_sameTexts.R : List (Nat × Ty) := [(0, .bool)]
def laws_sameTexts.X : List ResultVar := [.tmp 4]
noncomputable def laws_sameTexts.K := fin laws_sameTexts.E ⟨laws_sameTexts.P, laws_sameTexts.R, fun _ _ => none⟩ laws_sameTexts.X laws_sameTexts.P.len 0
noncomputable def laws_sameTexts.l8 (a : List ByteArray) (b : List ByteArray) (t12 : Int) (t13 : Int) : Option (Bool) := fixP laws_sameTexts.E laws_sameTexts.T laws_sameTexts.C laws_sameTexts.K 8 laws_sameTexts.D8 (a, b, t12, t13)
noncomputable def laws_sameTexts.f (a : List ByteArray) (b : List ByteArray) : Option (Bool) := Fn laws_sameTexts.E laws_sameTexts.T laws_sameTexts.C laws_sameTexts.P laws_sameTexts.R laws_sameTexts.X (a, b)
theorem laws_sameTexts.l8_eq (a : List ByteArray) (b : List ByteArray) (t12 : Int) (t13 : Int) : laws_sameTexts.l8 a b t12 t13 =
  (bif (decide (t13 < t12)) then (bif ((decide (0 ≤ t13)) && (decide (t13 < (a.length : Int)))) then (bif ((decide (0 ≤ t13)) && (decide (t13 < (b.length : Int)))) then (bif (!((a.getD (t13).toNat em).toList == (b.getD (t13).toNat em).toList)) then (some false) else
     (laws_sameTexts.l8 a b t12 (w64 (t13 + 1)))) else none) else none) else (some true)) :=
  (fixP_eq laws_sameTexts.E laws_sameTexts.T laws_sameTexts.C laws_sameTexts.K 8 laws_sameTexts.D8 (a, b, t12, t13)).trans (by kernel_rfl)
theorem laws_sameTexts.f_eq (a : List ByteArray) (b : List ByteArray) : laws_sameTexts.f a b =
  (bif (!(decide ((a.length : Int) = (b.length : Int)))) then (some false) else
  (laws_sameTexts.l8 a b (a.length : Int) 0)) := by kernel_rfl
noncomputable def laws_sameTexts.S : Abs.Sum := ⟨laws_sameTexts.P, laws_sameTexts.R, fun _ => Fn laws_sameTexts.E laws_sameTexts.T laws_sameTexts.C laws_sameTexts.P laws_sameTexts.R laws_sameTexts.X⟩
theorem laws_sameTexts.meets : Meets Try.prog 34 laws_sameTexts.S := meets_tab (S := laws_sameTexts.U) tabOk_all AllMeets.nil AllStill.nil follows (by kernel_rfl : Try.prog.funcs[34]? = some Try.f34) (by kernel_rfl) (by kernel_rfl) (by kernel_rfl)
noncomputable def laws_sameHunks.C : Code := Try.f65.body.getD .skip
def laws_sameHunks.P : Par := (.cons (.val (.list (.pair (.int .i64) (.pair (.int .i64) (.one (.list .str)))))) (.cons (.val (.list (.pair (.int .i64) (.pair (.int .i64) (.one (.list .str)))))) .nil))
noncomputable def laws_sameHunks.U : SumTab := [(34, [], laws_sameTexts.S)]
noncomputable def laws_sameHunks.E : Env := mkEnv TY AR laws_sameHunks.U
def laws_sameHunks.D8 : CutD := ⟨[1, 12, 13, 14], (.cons (.val (.list (.pair (.int .i64) (.pair (.int .i64) (.one (.list .str)))))) (.cons (.val (.list (.pair (.int .i64) (.pair (.int .i64) (.one (.list .str)))))) (.cons (.val (.int .i64)) (.cons (.val (.int .i64)) .nil))))⟩
noncomputable def laws_sameHunks.T : Tab := fun k => look k [(8, laws_sameHunks.D8)]
def laws_sameHunks.R : List (Nat × Ty) := [(0, .bool)]
def laws_sameHunks.X : List ResultVar := [.tmp 4]
noncomputable def laws_sameHunks.K := fin laws_sameHunks.E ⟨laws_sameHunks.P, laws_sameHunks.R, fun _ _ => none⟩ laws_sameHunks.X laws_sameHunks.P.len 0
noncomputable def laws_sameHunks.l8 (b : List (Int × Int × List ByteArray)) (t12 : List (Int × Int × List ByteArray)) (t13 : Int) (t14 : Int) : Option (Bool) := fixP laws_sameHunks.E laws_sameHunks.T laws_sameHunks.C laws_sameHunks.K 8 laws_sameHunks.D8 (b, t12, t13, t14)
noncomputable def laws_sameHunks.f (a : List (Int × Int × List ByteArray)) (b : List (Int × Int × List ByteArray)) : Option (Bool) := Fn laws_sameHunks.E laws_sameHunks.T laws_sameHunks.C laws_sameHunks.P laws_sameHunks.R laws_sameHunks.X (a, b)
theorem laws_sameHunks.l8_eq (b : List (Int × Int × List ByteArray)) (t12 : List (Int × Int × List ByteArray)) (t13 : Int) (t14 : Int) : laws_sameHunks.l8 b t12 t13 t14 =
  (bif (decide (t14 < t13)) then (bif ((decide (0 ≤ t14)) && (decide (t14 < (t12.length : Int)))) then (bif ((decide (0 ≤ t14)) && (decide (t14 < (b.length : Int)))) then (bif (!(decide ((t12.getD (t14).toNat (0, 0, ([] : List ByteArray))).1 = (b.getD (t14).toNat (0, 0, ([] : List ByteArray))).1))) then (some false) else
     (bif ((decide (0 ≤ t14)) && (decide (t14 < (b.length : Int)))) then (bif (!(decide ((t12.getD (t14).toNat (0, 0, ([] : List ByteArray))).2.1 = (b.getD (t14).toNat (0, 0, ([] : List ByteArray))).2.1))) then (some false) else
       (bif ((decide (0 ≤ t14)) && (decide (t14 < (b.length : Int)))) then ((laws_sameTexts.f (t12.getD (t14).toNat (0, 0, ([] : List ByteArray))).2.2 (b.getD (t14).toNat (0, 0, ([] : List ByteArray))).2.2).bind fun y13 =>
         bif (!y13) then (some false) else
         (laws_sameHunks.l8 b t12 t13 (w64 (t14 + 1)))) else none)) else none)) else none) else none) else (some true)) :=
  (fixP_eq laws_sameHunks.E laws_sameHunks.T laws_sameHunks.C laws_sameHunks.K 8 laws_sameHunks.D8 (b, t12, t13, t14)).trans (by kernel_rfl)
theorem laws_sameHunks.f_eq (a : List (Int × Int × List ByteArray)) (b : List (Int × Int × List ByteArray)) : laws_sameHunks.f a b =
  (bif (!(decide ((a.length : Int) = (b.length : Int)))) then (some false) else
  (laws_sameHunks.l8 b a (a.length : Int) 0)) := by kernel_rfl
noncomputable def laws_sameHunks.S : Abs.Sum := ⟨laws_sameHunks.P, laws_sameHunks.R, fun _ => Fn laws_sameHunks.E laws_sameHunks.T laws_sameHunks.C laws_sameHunks.P laws_sameHunks.R laws_sameHunks.X⟩
theorem laws_sameHunks.meets : Meets Try.prog 65 laws_sameHunks.S := meets_tab (S := laws_sameHunks.U) tabOk_all (AllMeets.cons laws_sameTexts.meets AllMeets.nil) (AllStill.cons (fun _ _ _ => rfl) AllStill.nil) follows (by kernel_rfl : Try.prog.funcs[65]? = some Try.f65) (by kernel_rfl) (by kernel_rfl) (by kernel_rfl)
noncomputable def laws_sameSeries.C : Code := Try.f27.body.getD .skip
def laws_sameSeries.P : Par := (.cons (.val (.pair (.list .str) (.one (.list (.list (.pair (.int .i64) (.pair (.int .i64) (.one (.list .str))))))))) (.cons (.val (.pair (.list .str) (.one (.list (.list (.pair (.int .i64) (.pair (.int .i64) (.one (.list .str))))))))) .nil))
noncomputable def laws_sameSeries.U : SumTab := [(34, [], laws_sameTexts.S), (65, [], laws_sameHunks.S)]
noncomputable def laws_sameSeries.E : Env := mkEnv TY AR laws_sameSeries.U
def laws_sameSeries.D7 : CutD := ⟨[2, 3], (.cons (.box 0 (.pair (.list .str) (.one (.list (.list (.pair (.int .i64) (.pair (.int .i64) (.one (.list .str))))))))) (.cons (.box 0 (.pair (.list .str) (.one (.list (.list (.pair (.int .i64) (.pair (.int .i64) (.one (.list .str))))))))) .nil))⟩
def laws_sameSeries.D8 : CutD := ⟨[2, 3, 23, 24], (.cons (.box 0 (.pair (.list .str) (.one (.list (.list (.pair (.int .i64) (.pair (.int .i64) (.one (.list .str))))))))) (.cons (.box 0 (.pair (.list .str) (.one (.list (.list (.pair (.int .i64) (.pair (.int .i64) (.one (.list .str))))))))) (.cons (.val (.int .i64)) (.cons (.val (.int .i64)) .nil))))⟩
noncomputable def laws_sameSeries.T : Tab := fun k => look k [(7, laws_sameSeries.D7), (8, laws_sameSeries.D8)]
def laws_sameSeries.R : List (Nat × Ty) := [(0, .bool)]
def laws_sameSeries.X : List ResultVar := [.tmp 4]
noncomputable def laws_sameSeries.K := fin laws_sameSeries.E ⟨laws_sameSeries.P, laws_sameSeries.R, fun _ _ => none⟩ laws_sameSeries.X laws_sameSeries.P.len 0
noncomputable def laws_sameSeries.l7 (a : (List ByteArray) × List (List (Int × Int × List ByteArray))) (b : (List ByteArray) × List (List (Int × Int × List ByteArray))) : Option (Bool) := fixP laws_sameSeries.E laws_sameSeries.T laws_sameSeries.C laws_sameSeries.K 7 laws_sameSeries.D7 (a, b)
noncomputable def laws_sameSeries.l8 (a : (List ByteArray) × List (List (Int × Int × List ByteArray))) (b : (List ByteArray) × List (List (Int × Int × List ByteArray))) (t23 : Int) (t24 : Int) : Option (Bool) := fixP laws_sameSeries.E laws_sameSeries.T laws_sameSeries.C laws_sameSeries.K 8 laws_sameSeries.D8 (a, b, t23, t24)
noncomputable def laws_sameSeries.f (a : (List ByteArray) × List (List (Int × Int × List ByteArray))) (b : (List ByteArray) × List (List (Int × Int × List ByteArray))) : Option (Bool) := Fn laws_sameSeries.E laws_sameSeries.T laws_sameSeries.C laws_sameSeries.P laws_sameSeries.R laws_sameSeries.X (a, b)
theorem laws_sameSeries.l7_eq (a : (List ByteArray) × List (List (Int × Int × List ByteArray))) (b : (List ByteArray) × List (List (Int × Int × List ByteArray))) : laws_sameSeries.l7 a b =
  (laws_sameSeries.l8 a b (a.2.length : Int) 0) :=
  (fixP_eq laws_sameSeries.E laws_sameSeries.T laws_sameSeries.C laws_sameSeries.K 7 laws_sameSeries.D7 (a, b)).trans (by kernel_rfl)
theorem laws_sameSeries.l8_eq (a : (List ByteArray) × List (List (Int × Int × List ByteArray))) (b : (List ByteArray) × List (List (Int × Int × List ByteArray))) (t23 : Int) (t24 : Int) : laws_sameSeries.l8 a b t23 t24 =
  (bif (decide (t24 < t23)) then (bif ((decide (0 ≤ t24)) && (decide (t24 < (a.2.length : Int)))) then (bif ((decide (0 ≤ t24)) && (decide (t24 < (b.2.length : Int)))) then ((laws_sameHunks.f (a.2.getD (t24).toNat ([] : List (Int × Int × List ByteArray))) (b.2.getD (t24).toNat ([] : List (Int × Int × List ByteArray)))).bind fun y13 =>
     bif (!y13) then (some false) else
     (laws_sameSeries.l8 a b t23 (w64 (t24 + 1)))) else none) else none) else (some true)) :=
  (fixP_eq laws_sameSeries.E laws_sameSeries.T laws_sameSeries.C laws_sameSeries.K 8 laws_sameSeries.D8 (a, b, t23, t24)).trans (by kernel_rfl)
theorem laws_sameSeries.f_eq (a : (List ByteArray) × List (List (Int × Int × List ByteArray))) (b : (List ByteArray) × List (List (Int × Int × List ByteArray))) : laws_sameSeries.f a b =
  ((laws_sameTexts.f a.1 b.1).bind fun y13 =>
  bif (!y13) then (some false) else
  (bif (!(decide ((a.2.length : Int) = (b.2.length : Int)))) then (some false) else
   (laws_sameSeries.l7 a b))) := by kernel_rfl
noncomputable def laws_sameSeries.S : Abs.Sum := ⟨laws_sameSeries.P, laws_sameSeries.R, fun _ => Fn laws_sameSeries.E laws_sameSeries.T laws_sameSeries.C laws_sameSeries.P laws_sameSeries.R laws_sameSeries.X⟩
theorem laws_sameSeries.meets : Meets Try.prog 27 laws_sameSeries.S := meets_tab (S := laws_sameSeries.U) tabOk_all (AllMeets.cons laws_sameTexts.meets (AllMeets.cons laws_sameHunks.meets AllMeets.nil)) (AllStill.cons (fun _ _ _ => rfl) (AllStill.cons (fun _ _ _ => rfl) AllStill.nil)) follows (by kernel_rfl : Try.prog.funcs[27]? = some Try.f27) (by kernel_rfl) (by kernel_rfl) (by kernel_rfl)
noncomputable def spec_DrawSinceOf.C : Code := Try.f118.body.getD .skip
def spec_DrawSinceOf.P : Par := (.cons (.val (.list (.int .u8))) .nil)
noncomputable def spec_DrawSinceOf.U : SumTab := [(169, [], spec_l1Cur_versions.S)]
noncomputable def spec_DrawSinceOf.E : Env := mkEnv TY AR spec_DrawSinceOf.U
noncomputable def spec_DrawSinceOf.T : Tab := fun k => look k []
def spec_DrawSinceOf.R : List (Nat × Ty) := [(1, .list (.list .str))]
def spec_DrawSinceOf.X : List ResultVar := [.tmp 2]
noncomputable def spec_DrawSinceOf.f (code : List Int) : Option ((List (List ByteArray))) := Fn spec_DrawSinceOf.E spec_DrawSinceOf.T spec_DrawSinceOf.C spec_DrawSinceOf.P spec_DrawSinceOf.R spec_DrawSinceOf.X code
theorem spec_DrawSinceOf.f_eq (code : List Int) : spec_DrawSinceOf.f code =
  ((spec_l1Cur_versions.f (code, 0, 0)).bind fun y45 =>
  some y45.1) := by kernel_rfl
noncomputable def spec_DrawSinceOf.S : Abs.Sum := ⟨spec_DrawSinceOf.P, spec_DrawSinceOf.R, fun _ => Fn spec_DrawSinceOf.E spec_DrawSinceOf.T spec_DrawSinceOf.C spec_DrawSinceOf.P spec_DrawSinceOf.R spec_DrawSinceOf.X⟩
theorem spec_DrawSinceOf.meets : Meets Try.prog 118 spec_DrawSinceOf.S := meets_tab (S := spec_DrawSinceOf.U) tabOk_all (AllMeets.cons spec_l1Cur_versions.meets AllMeets.nil) (AllStill.cons (fun _ _ _ => rfl) AllStill.nil) follows (by kernel_rfl : Try.prog.funcs[118]? = some Try.f118) (by kernel_rfl) (by kernel_rfl) (by kernel_rfl)
noncomputable def spec_DrawSeriesOf.C : Code := Try.f43.body.getD .skip
def spec_DrawSeriesOf.P : Par := (.cons (.val (.list (.int .u8))) .nil)
noncomputable def spec_DrawSeriesOf.U : SumTab := [(118, [], spec_DrawSinceOf.S)]
noncomputable def spec_DrawSeriesOf.E : Env := mkEnv TY AR spec_DrawSeriesOf.U
noncomputable def spec_DrawSeriesOf.T : Tab := fun k => look k []
def spec_DrawSeriesOf.R : List (Nat × Ty) := [(1, .list (.list .str))]
def spec_DrawSeriesOf.X : List ResultVar := [.tmp 2]
noncomputable def spec_DrawSeriesOf.f (code : List Int) : Option ((List (List ByteArray))) := Fn spec_DrawSeriesOf.E spec_DrawSeriesOf.T spec_DrawSeriesOf.C spec_DrawSeriesOf.P spec_DrawSeriesOf.R spec_DrawSeriesOf.X code
theorem spec_DrawSeriesOf.f_eq (code : List Int) : spec_DrawSeriesOf.f code =
  ((spec_DrawSinceOf.f code).bind fun y47 =>
  some y47) := by kernel_rfl
noncomputable def spec_DrawSeriesOf.S : Abs.Sum := ⟨spec_DrawSeriesOf.P, spec_DrawSeriesOf.R, fun _ => Fn spec_DrawSeriesOf.E spec_DrawSeriesOf.T spec_DrawSeriesOf.C spec_DrawSeriesOf.P spec_DrawSeriesOf.R spec_DrawSeriesOf.X⟩
theorem spec_DrawSeriesOf.meets : Meets Try.prog 43 spec_DrawSeriesOf.S := meets_tab (S := spec_DrawSeriesOf.U) tabOk_all (AllMeets.cons spec_DrawSinceOf.meets AllMeets.nil) (AllStill.cons (fun _ _ _ => rfl) AllStill.nil) follows (by kernel_rfl : Try.prog.funcs[43]? = some Try.f43) (by kernel_rfl) (by kernel_rfl) (by kernel_rfl)
noncomputable def impl_areVersions_1.C : Code := Try.f178.body.getD .skip
def impl_areVersions_1.P : Par := (.cons (.val (.list .str)) .nil)
noncomputable def impl_areVersions_1.U : SumTab := [(127, [], impl_goodLines.S)]
noncomputable def impl_areVersions_1.E : Env := mkEnv TY AR impl_areVersions_1.U
noncomputable def impl_areVersions_1.T : Tab := fun k => look k []
def impl_areVersions_1.R : List (Nat × Ty) := [(0, .bool)]
def impl_areVersions_1.X : List ResultVar := [.tmp 2]
noncomputable def impl_areVersions_1.f (l : List ByteArray) : Option (Bool) := Fn impl_areVersions_1.E impl_areVersions_1.T impl_areVersions_1.C impl_areVersions_1.P impl_areVersions_1.R impl_areVersions_1.X l
theorem impl_areVersions_1.f_eq (l : List ByteArray) : impl_areVersions_1.f l =
  ((impl_goodLines.f l).bind fun y47 =>
  some (!y47)) := by kernel_rfl
noncomputable def impl_areVersions_1.S : Abs.Sum := ⟨impl_areVersions_1.P, impl_areVersions_1.R, fun _ => Fn impl_areVersions_1.E impl_areVersions_1.T impl_areVersions_1.C impl_areVersions_1.P impl_areVersions_1.R impl_areVersions_1.X⟩
theorem impl_areVersions_1.meets : Meets Try.prog 178 impl_areVersions_1.S := meets_tab (S := impl_areVersions_1.U) tabOk_all (AllMeets.cons impl_goodLines.meets AllMeets.nil) (AllStill.cons (fun _ _ _ => rfl) AllStill.nil) follows (by kernel_rfl : Try.prog.funcs[178]? = some Try.f178) (by kernel_rfl) (by kernel_rfl) (by kernel_rfl)
noncomputable def slices_IndexFunc_LLstring_Lstring__impl_areVersions_1.C : Code := Try.f214.body.getD .skip
def slices_IndexFunc_LLstring_Lstring__impl_areVersions_1.P : Par := (.cons (.val (.list (.list .str))) (.cons (.fn 178 .nil) .nil))
noncomputable def slices_IndexFunc_LLstring_Lstring__impl_areVersions_1.U : SumTab := [(178, [], impl_areVersions_1.S)]
noncomputable def slices_IndexFunc_LLstring_Lstring__impl_areVersions_1.E : Env := mkEnv TY AR slices_IndexFunc_LLstring_Lstring__impl_areVersions_1.U
def slices_IndexFunc_LLstring_Lstring__impl_areVersions_1.D4 : CutD := ⟨[0, 1, 7, 8], (.cons (.val (.list (.list .str))) (.cons (.fn 178 .nil) (.cons (.val (.int .i64)) (.cons (.val (.int .i64)) .nil))))⟩
noncomputable def slices_IndexFunc_LLstring_Lstring__impl_areVersions_1.T : Tab := fun k => look k [(4, slices_IndexFunc_LLstring_Lstring__impl_areVersions_1.D4)]
def slices_IndexFunc_LLstring_Lstring__impl_areVersions_1.R : List (Nat × Ty) := [(0, .int .i64)]
def slices_IndexFunc_LLstring_Lstring__impl_areVersions_1.X : List ResultVar := [.tmp 4]
noncomputable def slices_IndexFunc_LLstring_Lstring__impl_areVersions_1.K := fin slices_IndexFunc_LLstring_Lstring__impl_areVersions_1.E ⟨slices_IndexFunc_LLstring_Lstring__impl_areVersions_1.P, slices_IndexFunc_LLstring_Lstring__impl_areVersions_1.R, fun _ _ => none⟩ slices_IndexFunc_LLstring_Lstring__impl_areVersions_1.X slices_IndexFunc_LLstring_Lstring__impl_areVersions_1.P.len 0
noncomputable def slices_IndexFunc_LLstring_Lstring__impl_areVersions_1.l4 (s : List (List ByteArray)) (t7 : Int) (t8 : Int) : Option (Int) := fixP slices_IndexFunc_LLstring_Lstring__impl_areVersions_1.E slices_IndexFunc_LLstring_Lstring__impl_areVersions_1.T slices_IndexFunc_LLstring_Lstring__impl_areVersions_1.C slices_IndexFunc_LLstring_Lstring__impl_areVersions_1.K 4 slices_IndexFunc_LLstring_Lstring__impl_areVersions_1.D4 (s, t7, t8)
noncomputable def slices_IndexFunc_LLstring_Lstring__impl_areVersions_1.f (s : List (List ByteArray)) : Option (Int) := Fn slices_IndexFunc_LLstring_Lstring__impl_areVersions_1.E slices_IndexFunc_LLstring_Lstring__impl_areVersions_1.T slices_IndexFunc_LLstring_Lstring__impl_areVersions_1.C slices_IndexFunc_LLstring_Lstring__impl_areVersions_1.P slices_IndexFunc_LLstring_Lstring__impl_areVersions_1.R slices_IndexFunc_LLstring_Lstring__impl_areVersions_1.X s
theorem slices_IndexFunc_LLstring_Lstring__impl_areVersions_1.l4_eq (s : List (List ByteArray)) (t7 : Int) (t8 : Int) : slices_IndexFunc_LLstring_Lstring__impl_areVersions_1.l4 s t7 t8 =
  (bif (decide (t8 < t7)) then (bif ((decide (0 ≤ t8)) && (decide (t8 < (s.length : Int)))) then ((impl_areVersions_1.f (s.getD (t8).toNat ([] : List ByteArray))).bind fun y47 =>
    bif y47 then (some t8) else
    (slices_IndexFunc_LLstring_Lstring__impl_areVersions_1.l4 s t7 (w64 (t8 + 1)))) else none) else (some (-1))) :=
  (fixP_eq slices_IndexFunc_LLstring_Lstring__impl_areVersions_1.E slices_IndexFunc_LLstring_Lstring__impl_areVersions_1.T slices_IndexFunc_LLstring_Lstring__impl_areVersions_1.C slices_IndexFunc_LLstring_Lstring__impl_areVersions_1.K 4 slices_IndexFunc_LLstring_Lstring__impl_areVersions_1.D4 (s, t7, t8)).trans (by kernel_rfl)
theorem slices_IndexFunc_LLstring_Lstring__impl_areVersions_1.f_eq (s : List (List ByteArray)) : slices_IndexFunc_LLstring_Lstring__impl_areVersions_1.f s =
  (slices_IndexFunc_LLstring_Lstring__impl_areVersions_1.l4 s (s.length : Int) 0) := by kernel_rfl
noncomputable def slices_IndexFunc_LLstring_Lstring__impl_areVersions_1.S : Abs.Sum := ⟨slices_IndexFunc_LLstring_Lstring__impl_areVersions_1.P, slices_IndexFunc_LLstring_Lstring__impl_areVersions_1.R, fun _ => Fn slices_IndexFunc_LLstring_Lstring__impl_areVersions_1.E slices_IndexFunc_LLstring_Lstring__impl_areVersions_1.T slices_IndexFunc_LLstring_Lstring__impl_areVersions_1.C slices_IndexFunc_LLstring_Lstring__impl_areVersions_1.P slices_IndexFunc_LLstring_Lstring__impl_areVersions_1.R slices_IndexFunc_LLstring_Lstring__impl_areVersions_1.X⟩
theorem slices_IndexFunc_LLstring_Lstring__impl_areVersions_1.meets : Meets Try.prog 214 slices_IndexFunc_LLstring_Lstring__impl_areVersions_1.S := meets_tab (S := slices_IndexFunc_LLstring_Lstring__impl_areVersions_1.U) tabOk_all (AllMeets.cons impl_areVersions_1.meets AllMeets.nil) (AllStill.cons (fun _ _ _ => rfl) AllStill.nil) follows (by kernel_rfl : Try.prog.funcs[214]? = some Try.f214) (by kernel_rfl) (by kernel_rfl) (by kernel_rfl)
noncomputable def slices_ContainsFunc_LLstring_Lstring__impl_areVersions_1.C : Code := Try.f177.body.getD .skip
def slices_ContainsFunc_LLstring_Lstring__impl_areVersions_1.P : Par := (.cons (.val (.list (.list .str))) (.cons (.fn 178 .nil) .nil))
noncomputable def slices_ContainsFunc_LLstring_Lstring__impl_areVersions_1.U : SumTab := [(214, [178], slices_IndexFunc_LLstring_Lstring__impl_areVersions_1.S)]
noncomputable def slices_ContainsFunc_LLstring_Lstring__impl_areVersions_1.E : Env := mkEnv TY AR slices_ContainsFunc_LLstring_Lstring__impl_areVersions_1.U
noncomputable def slices_ContainsFunc_LLstring_Lstring__impl_areVersions_1.T : Tab := fun k => look k []
def slices_ContainsFunc_LLstring_Lstring__impl_areVersions_1.R : List (Nat × Ty) := [(0, .bool)]
def slices_ContainsFunc_LLstring_Lstring__impl_areVersions_1.X : List ResultVar := [.tmp 4]
noncomputable def slices_ContainsFunc_LLstring_Lstring__impl_areVersions_1.f (s : List (List ByteArray)) : Option (Bool) := Fn slices_ContainsFunc_LLstring_Lstring__impl_areVersions_1.E slices_ContainsFunc_LLstring_Lstring__impl_areVersions_1.T slices_ContainsFunc_LLstring_Lstring__impl_areVersions_1.C slices_ContainsFunc_LLstring_Lstring__impl_areVersions_1.P slices_ContainsFunc_LLstring_Lstring__impl_areVersions_1.R slices_ContainsFunc_LLstring_Lstring__impl_areVersions_1.X s
theorem slices_ContainsFunc_LLstring_Lstring__impl_areVersions_1.f_eq (s : List (List ByteArray)) : slices_ContainsFunc_LLstring_Lstring__impl_areVersions_1.f s =
  ((slices_IndexFunc_LLstring_Lstring__impl_areVersions_1.f s).bind fun y47 =>
  some (decide (y47 ≥ 0))) := by kernel_rfl
noncomputable def slices_ContainsFunc_LLstring_Lstring__impl_areVersions_1.S : Abs.Sum := ⟨slices_ContainsFunc_LLstring_Lstring__impl_areVersions_1.P, slices_ContainsFunc_LLstring_Lstring__impl_areVersions_1.R, fun _ => Fn slices_ContainsFunc_LLstring_Lstring__impl_areVersions_1.E slices_ContainsFunc_LLstring_Lstring__impl_areVersions_1.T slices_ContainsFunc_LLstring_Lstring__impl_areVersions_1.C slices_ContainsFunc_LLstring_Lstring__impl_areVersions_1.P slices_ContainsFunc_LLstring_Lstring__impl_areVersions_1.R slices_ContainsFunc_LLstring_Lstring__impl_areVersions_1.X⟩
theorem slices_ContainsFunc_LLstring_Lstring__impl_areVersions_1.meets : Meets Try.prog 177 slices_ContainsFunc_LLstring_Lstring__impl_areVersions_1.S := meets_tab (S := slices_ContainsFunc_LLstring_Lstring__impl_areVersions_1.U) tabOk_all (AllMeets.cons slices_IndexFunc_LLstring_Lstring__impl_areVersions_1.meets AllMeets.nil) (AllStill.cons (fun _ _ _ => rfl) AllStill.nil) follows (by kernel_rfl : Try.prog.funcs[177]? = some Try.f177) (by kernel_rfl) (by kernel_rfl) (by kernel_rfl)
noncomputable def impl_areVersions.C : Code := Try.f119.body.getD .skip
def impl_areVersions.P : Par := (.cons (.val (.list (.list .str))) .nil)
noncomputable def impl_areVersions.U : SumTab := [(98, [], impl_in.S), (177, [178], slices_ContainsFunc_LLstring_Lstring__impl_areVersions_1.S)]
noncomputable def impl_areVersions.E : Env := mkEnv TY AR impl_areVersions.U
noncomputable def impl_areVersions.T : Tab := fun k => look k []
def impl_areVersions.R : List (Nat × Ty) := [(0, .bool)]
def impl_areVersions.X : List ResultVar := [.tmp 2]
noncomputable def impl_areVersions.f (v : List (List ByteArray)) : Option (Bool) := Fn impl_areVersions.E impl_areVersions.T impl_areVersions.C impl_areVersions.P impl_areVersions.R impl_areVersions.X v
theorem impl_areVersions.f_eq (v : List (List ByteArray)) : impl_areVersions.f v =
  ((impl_in.f (v.length : Int) 1 8).bind fun y47 =>
  bif y47 then ((slices_ContainsFunc_LLstring_Lstring__impl_areVersions_1.f v).bind fun y48 =>
   some (!y48)) else (some false)) := by kernel_rfl
noncomputable def impl_areVersions.S : Abs.Sum := ⟨impl_areVersions.P, impl_areVersions.R, fun _ => Fn impl_areVersions.E impl_areVersions.T impl_areVersions.C impl_areVersions.P impl_areVersions.R impl_areVersions.X⟩
theorem impl_areVersions.meets : Meets Try.prog 119 impl_areVersions.S := meets_tab (S := impl_areVersions.U) tabOk_all (AllMeets.cons impl_in.meets (AllMeets.cons slices_ContainsFunc_LLstring_Lstring__impl_areVersions_1.meets AllMeets.nil)) (AllStill.cons (fun _ _ _ => rfl) (AllStill.cons (fun _ _ _ => rfl) AllStill.nil)) follows (by kernel_rfl : Try.prog.funcs[119]? = some Try.f119) (by kernel_rfl) (by kernel_rfl) (by kernel_rfl)
noncomputable def impl_SeriesOf.C : Code := Try.f44.body.getD .skip
def impl_SeriesOf.P : Par := (.cons (.val (.list (.list .str))) .nil)
noncomputable def impl_SeriesOf.U : SumTab := [(119, [], impl_areVersions.S), (120, [], slices_Clone_Lstring_string.S), (90, [], impl_DiffHunks.S)]
noncomputable def impl_SeriesOf.E : Env := mkEnv TY AR impl_SeriesOf.U
def impl_SeriesOf.D10 : CutD := ⟨[0, 2, 4, 5], (.cons (.val (.list (.list .str))) (.cons (.box 9 (.pair (.list .str) (.one (.list (.list (.pair (.int .i64) (.pair (.int .i64) (.one (.list .str))))))))) (.cons (.box 9 (.pair (.list .str) (.one (.list (.list (.pair (.int .i64) (.pair (.int .i64) (.one (.list .str))))))))) (.cons (.val (.int .i64)) .nil))))⟩
noncomputable def impl_SeriesOf.T : Tab := fun k => look k [(10, impl_SeriesOf.D10)]
def impl_SeriesOf.R : List (Nat × Ty) := [(9, .pair (.list .str) (.one (.list (.list (.pair (.int .i64) (.pair (.int .i64) (.one (.list .str)))))))), (0, .bool)]
def impl_SeriesOf.X : List ResultVar := [.cell 2 30, .tmp 3]
noncomputable def impl_SeriesOf.K := fin impl_SeriesOf.E ⟨impl_SeriesOf.P, impl_SeriesOf.R, fun _ _ => none⟩ impl_SeriesOf.X impl_SeriesOf.P.len 0
noncomputable def impl_SeriesOf.l10 (v : List (List ByteArray)) (t2 : (List ByteArray) × List (List (Int × Int × List ByteArray))) (s : (List ByteArray) × List (List (Int × Int × List ByteArray))) (n : Int) : Option (((List ByteArray) × List (List (Int × Int × List ByteArray))) × Bool) := fixP impl_SeriesOf.E impl_SeriesOf.T impl_SeriesOf.C impl_SeriesOf.K 10 impl_SeriesOf.D10 (v, t2, s, n)
noncomputable def impl_SeriesOf.f (v : List (List ByteArray)) : Option (((List ByteArray) × List (List (Int × Int × List ByteArray))) × Bool) := Fn impl_SeriesOf.E impl_SeriesOf.T impl_SeriesOf.C impl_SeriesOf.P impl_SeriesOf.R impl_SeriesOf.X v
theorem impl_SeriesOf.l10_eq (v : List (List ByteArray)) (t2 : (List ByteArray) × List (List (Int × Int × List ByteArray))) (s : (List ByteArray) × List (List (Int × Int × List ByteArray))) (n : Int) : impl_SeriesOf.l10 v t2 s n =
  (bif (decide (n < (v.length : Int))) then (bif ((decide (0 ≤ (w64 (n - 1)))) && (decide ((w64 (n - 1)) < (v.length : Int)))) then (bif ((decide (0 ≤ n)) && (decide (n < (v.length : Int)))) then ((impl_DiffHunks.f (v.getD ((w64 (n - 1))).toNat ([] : List ByteArray)) (v.getD (n).toNat ([] : List ByteArray))).bind fun y47 =>
     bif (!y47.2) then (some ((([] : List ByteArray), ([] : List (List (Int × Int × List ByteArray)))), false)) else
     (bif (decide ((s.2.length + [y47.1].length) ≤ room 24)) then (impl_SeriesOf.l10 v (t2.1, t2.2) (s.1, (s.2 ++ [y47.1])) (w64 (n + 1))) else none)) else none) else none) else (some ((s.1, s.2), true))) :=
  (fixP_eq impl_SeriesOf.E impl_SeriesOf.T impl_SeriesOf.C impl_SeriesOf.K 10 impl_SeriesOf.D10 (v, t2, s, n)).trans (by kernel_rfl)
theorem impl_SeriesOf.f_eq (v : List (List ByteArray)) : impl_SeriesOf.f v =
  ((impl_areVersions.f v).bind fun y47 =>
  bif (!y47) then (some ((([] : List ByteArray), ([] : List (List (Int × Int × List ByteArray)))), false)) else
  (bif (decide (0 < (v.length : Int))) then ((slices_Clone_Lstring_string.f (v.getD 0 ([] : List ByteArray))).bind fun y48 =>
    impl_SeriesOf.l10 v (([] : List ByteArray), ([] : List (List (Int × Int × List ByteArray)))) (y48, ([] : List (List (Int × Int × List ByteArray)))) 1) else none)) := by kernel_rfl
noncomputable def impl_SeriesOf.S : Abs.Sum := ⟨impl_SeriesOf.P, impl_SeriesOf.R, fun _ => Fn impl_SeriesOf.E impl_SeriesOf.T impl_SeriesOf.C impl_SeriesOf.P impl_SeriesOf.R impl_SeriesOf.X⟩
theorem impl_SeriesOf.meets : Meets Try.prog 44 impl_SeriesOf.S := meets_tab (S := impl_SeriesOf.U) tabOk_all (AllMeets.cons impl_areVersions.meets (AllMeets.cons slices_Clone_Lstring_string.meets (AllMeets.cons impl_DiffHunks.meets AllMeets.nil))) (AllStill.cons (fun _ _ _ => rfl) (AllStill.cons (fun _ _ _ => rfl) (AllStill.cons (fun _ _ _ => rfl) AllStill.nil))) follows (by kernel_rfl : Try.prog.funcs[44]? = some Try.f44) (by kernel_rfl) (by kernel_rfl) (by kernel_rfl)
noncomputable def spec_DrawTextAt.C : Code := Try.f47.body.getD .skip
def spec_DrawTextAt.P : Par := (.cons (.val (.list (.int .u8))) .nil)
noncomputable def spec_DrawTextAt.U : SumTab := [(99, [], spec_l1Cur_series.S), (116, [], spec_l1Cur_pick.S)]
noncomputable def spec_DrawTextAt.E : Env := mkEnv TY AR spec_DrawTextAt.U
noncomputable def spec_DrawTextAt.T : Tab := fun k => look k []
def spec_DrawTextAt.R : List (Nat × Ty) := [(9, .pair (.list .str) (.one (.list (.list (.pair (.int .i64) (.pair (.int .i64) (.one (.list .str)))))))), (0, .int .i64)]
def spec_DrawTextAt.X : List ResultVar := [.cell 2 30, .tmp 3]
noncomputable def spec_DrawTextAt.f (code : List Int) : Option (((List ByteArray) × List (List (Int × Int × List ByteArray))) × Int) := Fn spec_DrawTextAt.E spec_DrawTextAt.T spec_DrawTextAt.C spec_DrawTextAt.P spec_DrawTextAt.R spec_DrawTextAt.X code
theorem spec_DrawTextAt.f_eq (code : List Int) : spec_DrawTextAt.f code =
  ((spec_l1Cur_series.f (code, 0, 0)).bind fun y47 =>
  (spec_l1Cur_pick.f y47.2 (w64 ((y47.1.2.length : Int) + 2))).bind fun y48 =>
  (spec_l1Cur_pick.f y48.2 20).bind fun y49 =>
  some ((y47.1.1, y47.1.2), (w64 (y48.1 - (w64 (y49.1.tdiv 19)))))) := by kernel_rfl
noncomputable def spec_DrawTextAt.S : Abs.Sum := ⟨spec_DrawTextAt.P, spec_DrawTextAt.R, fun _ => Fn spec_DrawTextAt.E spec_DrawTextAt.T spec_DrawTextAt.C spec_DrawTextAt.P spec_DrawTextAt.R spec_DrawTextAt.X⟩
theorem spec_DrawTextAt.meets : Meets Try.prog 47 spec_DrawTextAt.S := meets_tab (S := spec_DrawTextAt.U) tabOk_all (AllMeets.cons spec_l1Cur_series.meets (AllMeets.cons spec_l1Cur_pick.meets AllMeets.nil)) (AllStill.cons (fun _ _ _ => rfl) (AllStill.cons (fun _ _ _ => rfl) AllStill.nil)) follows (by kernel_rfl : Try.prog.funcs[47]? = some Try.f47) (by kernel_rfl) (by kernel_rfl) (by kernel_rfl)
noncomputable def spec_TextAt.C : Code := Try.f48.body.getD .skip
def spec_TextAt.P : Par := (.cons (.val (.pair (.list .str) (.one (.list (.list (.pair (.int .i64) (.pair (.int .i64) (.one (.list .str))))))))) (.cons (.val (.int .i64)) .nil))
noncomputable def spec_TextAt.U : SumTab := [(83, [], spec_l13Good.S), (113, [], spec_l1In.S), (86, [], spec_l13At.S)]
noncomputable def spec_TextAt.E : Env := mkEnv TY AR spec_TextAt.U
noncomputable def spec_TextAt.T : Tab := fun k => look k []
def spec_TextAt.R : List (Nat × Ty) := [(9, .list .str), (0, .bool)]
def spec_TextAt.X : List ResultVar := [.tmp 4, .tmp 5]
noncomputable def spec_TextAt.f (s : (List ByteArray) × List (List (Int × Int × List ByteArray))) (n : Int) : Option ((List ByteArray) × Bool) := Fn spec_TextAt.E spec_TextAt.T spec_TextAt.C spec_TextAt.P spec_TextAt.R spec_TextAt.X (s, n)
theorem spec_TextAt.f_eq (s : (List ByteArray) × List (List (Int × Int × List ByteArray))) (n : Int) : spec_TextAt.f s n =
  ((spec_l13Good.f s).bind fun y47 =>
  bif (!y47) then (some (([] : List ByteArray), false)) else
  ((spec_l1In.f n 0 (s.2.length : Int)).bind fun y48 =>
   bif (!y48) then (some (([] : List ByteArray), false)) else
   ((spec_l13At.f s n).bind fun y49 =>
    some (y49, true)))) := by kernel_rfl
noncomputable def spec_TextAt.S : Abs.Sum := ⟨spec_TextAt.P, spec_TextAt.R, fun _ => Fn spec_TextAt.E spec_TextAt.T spec_TextAt.C spec_TextAt.P spec_TextAt.R spec_TextAt.X⟩
theorem spec_TextAt.meets : Meets Try.prog 48 spec_TextAt.S := meets_tab (S := spec_TextAt.U) tabOk_all (AllMeets.cons spec_l13Good.meets (AllMeets.cons spec_l1In.meets (AllMeets.cons spec_l13At.meets AllMeets.nil))) (AllStill.cons (fun _ _ _ => rfl) (AllStill.cons (fun _ _ _ => rfl) (AllStill.cons (fun _ _ _ => rfl) AllStill.nil))) follows (by kernel_rfl : Try.prog.funcs[48]? = some Try.f48) (by kernel_rfl) (by kernel_rfl) (by kernel_rfl)
noncomputable def spec_GoodSeries.C : Code := Try.f49.body.getD .skip
def spec_GoodSeries.P : Par := (.cons (.val (.pair (.list .str) (.one (.list (.list (.pair (.int .i64) (.pair (.int .i64) (.one (.list .str))))))))) .nil)
noncomputable def spec_GoodSeries.U : SumTab := [(83, [], spec_l13Good.S)]
noncomputable def spec_GoodSeries.E : Env := mkEnv TY AR spec_GoodSeries.U
noncomputable def spec_GoodSeries.T : Tab := fun k => look k []
def spec_GoodSeries.R : List (Nat × Ty) := [(0, .bool)]
def spec_GoodSeries.X : List ResultVar := [.tmp 2]
noncomputable def spec_GoodSeries.f (s : (List ByteArray) × List (List (Int × Int × List ByteArray))) : Option (Bool) := Fn spec_GoodSeries.E spec_GoodSeries.T spec_GoodSeries.C spec_GoodSeries.P spec_GoodSeries.R spec_GoodSeries.X s
theorem spec_GoodSeries.f_eq (s : (List ByteArray) × List (List (Int × Int × List ByteArray))) : spec_GoodSeries.f s =
  ((spec_l13Good.f s).bind fun y47 =>
  some y47) := by kernel_rfl
noncomputable def spec_GoodSeries.S : Abs.Sum := ⟨spec_GoodSeries.P, spec_GoodSeries.R, fun _ => Fn spec_GoodSeries.E spec_GoodSeries.T spec_GoodSeries.C spec_GoodSeries.P spec_GoodSeries.R spec_GoodSeries.X⟩
theorem spec_GoodSeries.meets : Meets Try.prog 49 spec_GoodSeries.S := meets_tab (S := spec_GoodSeries.U) tabOk_all (AllMeets.cons spec_l13Good.meets AllMeets.nil) (AllStill.cons (fun _ _ _ => rfl) AllStill.nil) follows (by kernel_rfl : Try.prog.funcs[49]? = some Try.f49) (by kernel_rfl) (by kernel_rfl) (by kernel_rfl)
noncomputable def impl_copiedHunks.C : Code := Try.f168.body.getD .skip
def impl_copiedHunks.P : Par := (.cons (.val (.list (.pair (.int .i64) (.pair (.int .i64) (.one (.list .str)))))) .nil)
noncomputable def impl_copiedHunks.U : SumTab := [(209, [], slices_Clone_Limpl_Hunk_impl_Hunk.S), (120, [], slices_Clone_Lstring_string.S)]
noncomputable def impl_copiedHunks.E : Env := mkEnv TY AR impl_copiedHunks.U
def impl_copiedHunks.D6 : CutD := ⟨[3, 9, 10, 1008003], (.cons (.own 0 (.pair (.int .i64) (.pair (.int .i64) (.one (.list .str))))) (.cons (.val (.int .i64)) (.cons (.val (.int .i64)) .nil)))⟩
noncomputable def impl_copiedHunks.T : Tab := fun k => look k [(6, impl_copiedHunks.D6)]
def impl_copiedHunks.R : List (Nat × Ty) := [(1, .list (.pair (.int .i64) (.pair (.int .i64) (.one (.list .str)))))]
def impl_copiedHunks.X : List ResultVar := [.tmp 2]
noncomputable def impl_copiedHunks.K := fin impl_copiedHunks.E ⟨impl_copiedHunks.P, impl_copiedHunks.R, fun _ _ => none⟩ impl_copiedHunks.X impl_copiedHunks.P.len 0
noncomputable def impl_copiedHunks.l6 (out : List (Int × Int × List ByteArray)) (t9 : Int) (t10 : Int) : Option ((List (Int × Int × List ByteArray))) := fixP impl_copiedHunks.E impl_copiedHunks.T impl_copiedHunks.C impl_copiedHunks.K 6 impl_copiedHunks.D6 (out, t9, t10)
noncomputable def impl_copiedHunks.f (h : List (Int × Int × List ByteArray)) : Option ((List (Int × Int × List ByteArray))) := Fn impl_copiedHunks.E impl_copiedHunks.T impl_copiedHunks.C impl_copiedHunks.P impl_copiedHunks.R impl_copiedHunks.X h
theorem impl_copiedHunks.l6_eq (out : List (Int × Int × List ByteArray)) (t9 : Int) (t10 : Int) : impl_copiedHunks.l6 out t9 t10 =
  (bif (decide (t10 < t9)) then (bif ((decide (0 ≤ t10)) && (decide (t10 < (out.length : Int)))) then ((slices_Clone_Lstring_string.f (out.getD (t10).toNat (0, 0, ([] : List ByteArray))).2.2).bind fun y1 =>
    bif ((decide (0 ≤ t10)) && (decide (t10 < (out.length : Int)))) then (impl_copiedHunks.l6 (out.set (t10).toNat ((out.getD (t10).toNat (0, 0, ([] : List ByteArray))).1, (out.getD (t10).toNat (0, 0, ([] : List ByteArray))).2.1, y1)) t9 (w64 (t10 + 1))) else none) else none) else (some out)) :=
  (fixP_eq impl_copiedHunks.E impl_copiedHunks.T impl_copiedHunks.C impl_copiedHunks.K 6 impl_copiedHunks.D6 (out, t9, t10)).trans (by kernel_rfl)
theorem impl_copiedHunks.f_eq (h : List (Int × Int × List ByteArray)) : impl_copiedHunks.f h =
  ((slices_Clone_Limpl_Hunk_impl_Hunk.f h).bind fun y1 =>
  impl_copiedHunks.l6 y1 (y1.length : Int) 0) := by kernel_rfl
noncomputable def impl_copiedHunks.S : Abs.Sum := ⟨impl_copiedHunks.P, impl_copiedHunks.R, fun _ => Fn impl_copiedHunks.E impl_copiedHunks.T impl_copiedHunks.C impl_copiedHunks.P impl_copiedHunks.R impl_copiedHunks.X⟩
theorem impl_copiedHunks.meets : Meets Try.prog 168 impl_copiedHunks.S := meets_tab (S := impl_copiedHunks.U) tabOk_all (AllMeets.cons slices_Clone_Limpl_Hunk_impl_Hunk.meets (AllMeets.cons slices_Clone_Lstring_string.meets AllMeets.nil)) (AllStill.cons (fun _ _ _ => rfl) (AllStill.cons (fun _ _ _ => rfl) AllStill.nil)) follows (by kernel_rfl : Try.prog.funcs[168]? = some Try.f168) (by kernel_rfl) (by kernel_rfl) (by kernel_rfl)
noncomputable def impl_Series_copied.C : Code := Try.f91.body.getD .skip
def impl_Series_copied.P : Par := (.cons (.val (.pair (.list .str) (.one (.list (.list (.pair (.int .i64) (.pair (.int .i64) (.one (.list .str))))))))) .nil)
noncomputable def impl_Series_copied.U : SumTab := [(120, [], slices_Clone_Lstring_string.S), (168, [], impl_copiedHunks.S)]
def impl_Series_copied.Z : List (Nat × List Nat) := [(1000021, [1])]
noncomputable def impl_Series_copied.E : Env := mkEnvZ TY AR impl_Series_copied.U impl_Series_copied.Z
def impl_Series_copied.D6 : CutD := ⟨[2, 3, 11, 12, 13], (.cons (.box 9 (.pair (.list .str) (.one (.list (.list (.pair (.int .i64) (.pair (.int .i64) (.one (.list .str))))))))) (.cons (.box 1 (.pair (.list .str) (.one (.list (.list (.pair (.int .i64) (.pair (.int .i64) (.one (.list .str))))))))) (.cons (.val (.list (.list (.pair (.int .i64) (.pair (.int .i64) (.one (.list .str))))))) (.cons (.val (.int .i64)) (.cons (.val (.int .i64)) .nil)))))⟩
noncomputable def impl_Series_copied.T : Tab := fun k => look k [(6, impl_Series_copied.D6)]
def impl_Series_copied.R : List (Nat × Ty) := [(1, .pair (.list .str) (.one (.list (.list (.pair (.int .i64) (.pair (.int .i64) (.one (.list .str))))))))]
def impl_Series_copied.X : List ResultVar := [.cell 2 30]
noncomputable def impl_Series_copied.K := fin impl_Series_copied.E ⟨impl_Series_copied.P, impl_Series_copied.R, fun _ _ => none⟩ impl_Series_copied.X impl_Series_copied.P.len 0
noncomputable def impl_Series_copied.l6 (t2 : (List ByteArray) × List (List (Int × Int × List ByteArray))) (out : (List ByteArray) × List (List (Int × Int × List ByteArray))) (t11 : List (List (Int × Int × List ByteArray))) (t12 : Int) (t13 : Int) : Option (((List ByteArray) × List (List (Int × Int × List ByteArray)))) := fixP impl_Series_copied.E impl_Series_copied.T impl_Series_copied.C impl_Series_copied.K 6 impl_Series_copied.D6 (t2, out, t11, t12, t13)
noncomputable def impl_Series_copied.f (s : (List ByteArray) × List (List (Int × Int × List ByteArray))) : Option (((List ByteArray) × List (List (Int × Int × List ByteArray)))) := Fn impl_Series_copied.E impl_Series_copied.T impl_Series_copied.C impl_Series_copied.P impl_Series_copied.R impl_Series_copied.X s
theorem impl_Series_copied.l6_eq (t2 : (List ByteArray) × List (List (Int × Int × List ByteArray))) (out : (List ByteArray) × List (List (Int × Int × List ByteArray))) (t11 : List (List (Int × Int × List ByteArray))) (t12 : Int) (t13 : Int) : impl_Series_copied.l6 t2 out t11 t12 t13 =
  (bif (decide (t13 < t12)) then (bif ((decide (0 ≤ t13)) && (decide (t13 < (t11.length : Int)))) then ((impl_copiedHunks.f (t11.getD (t13).toNat ([] : List (Int × Int × List ByteArray)))).bind fun y1 =>
    bif (decide ((out.2.length + [y1].length) ≤ room 24)) then (impl_Series_copied.l6 (t2.1, t2.2) (out.1, (out.2 ++ [y1])) t11 t12 (w64 (t13 + 1))) else none) else none) else (some (out.1, out.2))) :=
  (fixP_eq impl_Series_copied.E impl_Series_copied.T impl_Series_copied.C impl_Series_copied.K 6 impl_Series_copied.D6 (t2, out, t11, t12, t13)).trans (by kernel_rfl)
theorem impl_Series_copied.f_eq (s : (List ByteArray) × List (List (Int × Int × List ByteArray))) : impl_Series_copied.f s =
  ((slices_Clone_Lstring_string.f s.1).bind fun y1 =>
  impl_Series_copied.l6 (([] : List ByteArray), ([] : List (List (Int × Int × List ByteArray)))) (y1, ([] : List (List (Int × Int × List ByteArray)))) s.2 (s.2.length : Int) 0) := by kernel_rfl
noncomputable def impl_Series_copied.S : Abs.Sum := ⟨impl_Series_copied.P, impl_Series_copied.R, fun _ => Fn impl_Series_copied.E impl_Series_copied.T impl_Series_copied.C impl_Series_copied.P impl_Series_copied.R impl_Series_copied.X⟩
theorem impl_Series_copied.meets : Meets Try.prog 91 impl_Series_copied.S := meets_tabZ impl_Series_copied.Z (S := impl_Series_copied.U) tabOk_all (AllMeets.cons slices_Clone_Lstring_string.meets (AllMeets.cons impl_copiedHunks.meets AllMeets.nil)) (AllStill.cons (fun _ _ _ => rfl) (AllStill.cons (fun _ _ _ => rfl) AllStill.nil)) follows (by kernel_rfl : Try.prog.funcs[91]? = some Try.f91) (by kernel_rfl) (by kernel_rfl) (by kernel_rfl)
noncomputable def impl_AddText.C : Code := Try.f15.body.getD .skip
def impl_AddText.P : Par := (.cons (.val (.pair (.list .str) (.one (.list (.list (.pair (.int .i64) (.pair (.int .i64) (.one (.list .str))))))))) (.cons (.val (.list .str)) .nil))
noncomputable def impl_AddText.U : SumTab := [(89, [], impl_Series_texts.S), (90, [], impl_DiffHunks.S), (91, [], impl_Series_copied.S)]
noncomputable def impl_AddText.E : Env := mkEnv TY AR impl_AddText.U
def impl_AddText.D9 : CutD := ⟨[1, 2, 4, 6], (.cons (.val (.list .str)) (.cons (.box 0 (.pair (.list .str) (.one (.list (.list (.pair (.int .i64) (.pair (.int .i64) (.one (.list .str))))))))) (.cons (.box 9 (.pair (.list .str) (.one (.list (.list (.pair (.int .i64) (.pair (.int .i64) (.one (.list .str))))))))) (.cons (.own 8 (.list .str)) .nil))))⟩
noncomputable def impl_AddText.T : Tab := fun k => look k [(9, impl_AddText.D9)]
def impl_AddText.R : List (Nat × Ty) := [(1, .pair (.list .str) (.one (.list (.list (.pair (.int .i64) (.pair (.int .i64) (.one (.list .str)))))))), (0, .bool)]
def impl_AddText.X : List ResultVar := [.cell 4 30, .tmp 5]
noncomputable def impl_AddText.K := fin impl_AddText.E ⟨impl_AddText.P, impl_AddText.R, fun _ _ => none⟩ impl_AddText.X impl_AddText.P.len 0
noncomputable def impl_AddText.l9 (l : List ByteArray) (s : (List ByteArray) × List (List (Int × Int × List ByteArray))) (t4 : (List ByteArray) × List (List (Int × Int × List ByteArray))) (list : List (List ByteArray)) : Option (((List ByteArray) × List (List (Int × Int × List ByteArray))) × Bool) := fixP impl_AddText.E impl_AddText.T impl_AddText.C impl_AddText.K 9 impl_AddText.D9 (l, s, t4, list)
noncomputable def impl_AddText.f (s : (List ByteArray) × List (List (Int × Int × List ByteArray))) (l : List ByteArray) : Option (((List ByteArray) × List (List (Int × Int × List ByteArray))) × Bool) := Fn impl_AddText.E impl_AddText.T impl_AddText.C impl_AddText.P impl_AddText.R impl_AddText.X (s, l)
theorem impl_AddText.l9_eq (l : List ByteArray) (s : (List ByteArray) × List (List (Int × Int × List ByteArray))) (t4 : (List ByteArray) × List (List (Int × Int × List ByteArray))) (list : List (List ByteArray)) : impl_AddText.l9 l s t4 list =
  (bif ((decide (0 ≤ (s.2.length : Int))) && (decide ((s.2.length : Int) < (list.length : Int)))) then ((impl_DiffHunks.f (list.getD ((s.2.length : Int)).toNat ([] : List ByteArray)) l).bind fun y5 =>
   bif (!y5.2) then (some ((([] : List ByteArray), ([] : List (List (Int × Int × List ByteArray)))), false)) else
   ((impl_Series_copied.f s).bind fun y6 =>
    bif (decide ((y6.2.length + [y5.1].length) ≤ room 24)) then (some ((y6.1, (y6.2 ++ [y5.1])), true)) else none)) else none) :=
  (fixP_eq impl_AddText.E impl_AddText.T impl_AddText.C impl_AddText.K 9 impl_AddText.D9 (l, s, t4, list)).trans (by kernel_rfl)
theorem impl_AddText.f_eq (s : (List ByteArray) × List (List (Int × Int × List ByteArray))) (l : List ByteArray) : impl_AddText.f s l =
  ((impl_Series_texts.f s).bind fun y5 =>
  bif (!y5.2) then (some ((([] : List ByteArray), ([] : List (List (Int × Int × List ByteArray)))), false)) else
  (bif (decide ((w64 ((s.2.length : Int) + 1)) ≥ 8)) then (some ((([] : List ByteArray), ([] : List (List (Int × Int × List ByteArray)))), false)) else
   (impl_AddText.l9 l s (([] : List ByteArray), ([] : List (List (Int × Int × List ByteArray)))) y5.1))) := by kernel_rfl
noncomputable def impl_AddText.S : Abs.Sum := ⟨impl_AddText.P, impl_AddText.R, fun _ => Fn impl_AddText.E impl_AddText.T impl_AddText.C impl_AddText.P impl_AddText.R impl_AddText.X⟩
theorem impl_AddText.meets : Meets Try.prog 15 impl_AddText.S := meets_tab (S := impl_AddText.U) tabOk_all (AllMeets.cons impl_Series_texts.meets (AllMeets.cons impl_DiffHunks.meets (AllMeets.cons impl_Series_copied.meets AllMeets.nil))) (AllStill.cons (fun _ _ _ => rfl) (AllStill.cons (fun _ _ _ => rfl) (AllStill.cons (fun _ _ _ => rfl) AllStill.nil))) follows (by kernel_rfl : Try.prog.funcs[15]? = some Try.f15) (by kernel_rfl) (by kernel_rfl) (by kernel_rfl)
noncomputable def laws_FnSeries.C : Code := Try.f6.body.getD .skip
def laws_FnSeries.P : Par := (.cons (.val (.list (.int .u8))) (.cons (.val (.list (.int .u8))) .nil))
noncomputable def laws_FnSeries.U : SumTab := [(21, [], laws_big.S), (43, [], spec_DrawSeriesOf.S), (44, [], impl_SeriesOf.S), (45, [], spec_SeriesOf.S), (27, [], laws_sameSeries.S), (46, [], impl_GoodSeries.S), (25, [], impl_TextAt.S), (34, [], laws_sameTexts.S), (26, [], spec_DrawAddText.S), (15, [], impl_AddText.S), (12, [], spec_AddText.S), (47, [], spec_DrawTextAt.S), (48, [], spec_TextAt.S), (22, [], spec_DrawSizeOf.S), (23, [], impl_SizeOf.S), (24, [], spec_SizeOf.S), (49, [], spec_GoodSeries.S)]
def laws_FnSeries.Z : List (Nat × List Nat) := [(12, [5, 6]), (19, [14, 15]), (20, [16]), (22, [20])]
noncomputable def laws_FnSeries.E : Env := mkEnvZ TY AR laws_FnSeries.U laws_FnSeries.Z
def laws_FnSeries.D17 : CutD := ⟨[1, 5, 6, 7], (.cons (.val (.list (.int .u8))) (.cons (.own 0 (.list .str)) (.cons (.box 9 (.pair (.list .str) (.one (.list (.list (.pair (.int .i64) (.pair (.int .i64) (.one (.list .str))))))))) (.cons (.val .bool) .nil))))⟩
def laws_FnSeries.D23 : CutD := ⟨[1, 5, 6], (.cons (.val (.list (.int .u8))) (.cons (.own 0 (.list .str)) (.cons (.box 9 (.pair (.list .str) (.one (.list (.list (.pair (.int .i64) (.pair (.int .i64) (.one (.list .str))))))))) .nil)))⟩
def laws_FnSeries.D24 : CutD := ⟨[1, 6, 70, 71, 72], (.cons (.val (.list (.int .u8))) (.cons (.box 0 (.pair (.list .str) (.one (.list (.list (.pair (.int .i64) (.pair (.int .i64) (.one (.list .str))))))))) (.cons (.own 0 (.list .str)) (.cons (.val (.int .i64)) (.cons (.val (.int .i64)) .nil)))))⟩
def laws_FnSeries.D37 : CutD := ⟨[1], (.cons (.val (.list (.int .u8))) .nil)⟩
def laws_FnSeries.D59 : CutD := ⟨[14, 15, 16, 17], (.cons (.box 0 (.pair (.list .str) (.one (.list (.list (.pair (.int .i64) (.pair (.int .i64) (.one (.list .str))))))))) (.cons (.val (.list .str)) (.cons (.box 0 (.pair (.list .str) (.one (.list (.list (.pair (.int .i64) (.pair (.int .i64) (.one (.list .str))))))))) (.cons (.val .bool) .nil))))⟩
noncomputable def laws_FnSeries.T : Tab := fun k => look k [(17, laws_FnSeries.D17), (23, laws_FnSeries.D23), (24, laws_FnSeries.D24), (37, laws_FnSeries.D37), (59, laws_FnSeries.D59)]
def laws_FnSeries.R : List (Nat × Ty) := [(0, .bool)]
def laws_FnSeries.X : List ResultVar := [.tmp 4]
noncomputable def laws_FnSeries.K := fin laws_FnSeries.E ⟨laws_FnSeries.P, laws_FnSeries.R, fun _ _ => none⟩ laws_FnSeries.X laws_FnSeries.P.len 0
noncomputable def laws_FnSeries.l17 (more : List Int) (v : List (List ByteArray)) (s : (List ByteArray) × List (List (Int × Int × List ByteArray))) (ok : Bool) : Option (Bool) := fixP laws_FnSeries.E laws_FnSeries.T laws_FnSeries.C laws_FnSeries.K 17 laws_FnSeries.D17 (more, v, s, ok)
noncomputable def laws_FnSeries.l23 (more : List Int) (v : List (List ByteArray)) (s : (List ByteArray) × List (List (Int × Int × List ByteArray))) : Option (Bool) := fixP laws_FnSeries.E laws_FnSeries.T laws_FnSeries.C laws_FnSeries.K 23 laws_FnSeries.D23 (more, v, s)
noncomputable def laws_FnSeries.l24 (more : List Int) (s : (List ByteArray) × List (List (Int × Int × List ByteArray))) (t70 : List (List ByteArray)) (t71 : Int) (t72 : Int) : Option (Bool) := fixP laws_FnSeries.E laws_FnSeries.T laws_FnSeries.C laws_FnSeries.K 24 laws_FnSeries.D24 (more, s, t70, t71, t72)
noncomputable def laws_FnSeries.l37 (more : List Int) : Option (Bool) := fixP laws_FnSeries.E laws_FnSeries.T laws_FnSeries.C laws_FnSeries.K 37 laws_FnSeries.D37 more
noncomputable def laws_FnSeries.l59 (a : (List ByteArray) × List (List (Int × Int × List ByteArray))) (l : List ByteArray) (b : (List ByteArray) × List (List (Int × Int × List ByteArray))) (one : Bool) : Option (Bool) := fixP laws_FnSeries.E laws_FnSeries.T laws_FnSeries.C laws_FnSeries.K 59 laws_FnSeries.D59 (a, l, b, one)
noncomputable def laws_FnSeries.f (code : List Int) (more : List Int) : Option (Bool) := Fn laws_FnSeries.E laws_FnSeries.T laws_FnSeries.C laws_FnSeries.P laws_FnSeries.R laws_FnSeries.X (code, more)
theorem laws_FnSeries.l17_eq (more : List Int) (v : List (List ByteArray)) (s : (List ByteArray) × List (List (Int × Int × List ByteArray))) (ok : Bool) : laws_FnSeries.l17 more v s ok =
  (bif ok then ((impl_GoodSeries.f (s.1, s.2)).bind fun y5 =>
   bif (!y5) then (some false) else
   (bif (!(decide ((s.2.length : Int) = (w64 ((v.length : Int) - 1))))) then (some false) else
    (laws_FnSeries.l23 more v (s.1, s.2)))) else
  (laws_FnSeries.l37 more)) :=
  (fixP_eq laws_FnSeries.E laws_FnSeries.T laws_FnSeries.C laws_FnSeries.K 17 laws_FnSeries.D17 (more, v, s, ok)).trans (by kernel_rfl)
theorem laws_FnSeries.l23_eq (more : List Int) (v : List (List ByteArray)) (s : (List ByteArray) × List (List (Int × Int × List ByteArray))) : laws_FnSeries.l23 more v s =
  (laws_FnSeries.l24 more (s.1, s.2) v (v.length : Int) 0) :=
  (fixP_eq laws_FnSeries.E laws_FnSeries.T laws_FnSeries.C laws_FnSeries.K 23 laws_FnSeries.D23 (more, v, s)).trans (by kernel_rfl)
theorem laws_FnSeries.l24_eq (more : List Int) (s : (List ByteArray) × List (List (Int × Int × List ByteArray))) (t70 : List (List ByteArray)) (t71 : Int) (t72 : Int) : laws_FnSeries.l24 more s t70 t71 t72 =
  (bif (decide (t72 < t71)) then (bif ((decide (0 ≤ t72)) && (decide (t72 < (t70.length : Int)))) then ((impl_TextAt.f s t72).bind fun y5 =>
    bif (!y5.2) then (some false) else
    ((laws_sameTexts.f y5.1 (t70.getD (t72).toNat ([] : List ByteArray))).bind fun y6 =>
     bif (!y6) then (some false) else
     (laws_FnSeries.l24 more s t70 t71 (w64 (t72 + 1))))) else none) else
  (laws_FnSeries.l37 more)) :=
  (fixP_eq laws_FnSeries.E laws_FnSeries.T laws_FnSeries.C laws_FnSeries.K 24 laws_FnSeries.D24 (more, s, t70, t71, t72)).trans (by kernel_rfl)
theorem laws_FnSeries.l37_eq (more : List Int) : laws_FnSeries.l37 more =
  ((spec_DrawAddText.f more).bind fun y5 =>
  (impl_AddText.f (y5.1.1, y5.1.2) y5.2).bind fun y6 =>
  (spec_AddText.f (y5.1.1, y5.1.2) y5.2).bind fun y7 =>
  (spec_DrawTextAt.f more).bind fun y8 =>
  (impl_TextAt.f (y8.1.1, y8.1.2) y8.2).bind fun y9 =>
  (spec_TextAt.f (y8.1.1, y8.1.2) y8.2).bind fun y10 =>
  (spec_DrawSizeOf.f more).bind fun y11 =>
  (impl_SizeOf.f (y11.1, y11.2)).bind fun y12 =>
  (spec_SizeOf.f (y11.1, y11.2)).bind fun y13 =>
  bif (!(y6.2 == y7.2)) then (some false) else
  ((laws_sameSeries.f (y6.1.1, y6.1.2) (y7.1.1, y7.1.2)).bind fun y14 =>
   bif (!y14) then (some false) else
   (bif (!(y9.2 == y10.2)) then (some false) else
    ((laws_sameTexts.f y9.1 y10.1).bind fun y15 =>
     bif (!y15) then (some false) else
     (bif (!(y12.2 == y13.2)) then (some false) else
      (bif (!(decide (y12.1 = y13.1))) then (some false) else
       ((impl_GoodSeries.f (y11.1, y11.2)).bind fun y16 =>
        (spec_GoodSeries.f (y11.1, y11.2)).bind fun y17 =>
        bif (!(y16 == y17)) then (some false) else
        (laws_FnSeries.l59 (y5.1.1, y5.1.2) y5.2 (y6.1.1, y6.1.2) y6.2)))))))) :=
  (fixP_eq laws_FnSeries.E laws_FnSeries.T laws_FnSeries.C laws_FnSeries.K 37 laws_FnSeries.D37 more).trans (by kernel_rfl)
theorem laws_FnSeries.l59_eq (a : (List ByteArray) × List (List (Int × Int × List ByteArray))) (l : List ByteArray) (b : (List ByteArray) × List (List (Int × Int × List ByteArray))) (one : Bool) : laws_FnSeries.l59 a l b one =
  (bif one then ((impl_TextAt.f b (b.2.length : Int)).bind fun y5 =>
   bif y5.2 then ((laws_sameTexts.f y5.1 l).bind fun y6 =>
    bif y6 then (some (decide ((b.2.length : Int) = (w64 ((a.2.length : Int) + 1))))) else (some false)) else (some false)) else (some true)) :=
  (fixP_eq laws_FnSeries.E laws_FnSeries.T laws_FnSeries.C laws_FnSeries.K 59 laws_FnSeries.D59 (a, l, b, one)).trans (by kernel_rfl)
theorem laws_FnSeries.f_eq (code : List Int) (more : List Int) : laws_FnSeries.f code more =
  ((laws_big.f code more).bind fun y5 =>
  bif y5 then (some true) else
  ((spec_DrawSeriesOf.f code).bind fun y6 =>
   (impl_SeriesOf.f y6).bind fun y7 =>
   (spec_SeriesOf.f y6).bind fun y8 =>
   bif (!(y7.2 == y8.2)) then (some false) else
   ((laws_sameSeries.f (y7.1.1, y7.1.2) (y8.1.1, y8.1.2)).bind fun y9 =>
    bif (!y9) then (some false) else
    (laws_FnSeries.l17 more y6 (y7.1.1, y7.1.2) y7.2)))) := by kernel_rfl
noncomputable def laws_FnSeries.S : Abs.Sum := ⟨laws_FnSeries.P, laws_FnSeries.R, fun _ => Fn laws_FnSeries.E laws_FnSeries.T laws_FnSeries.C laws_FnSeries.P laws_FnSeries.R laws_FnSeries.X⟩
theorem laws_FnSeries.meets : Meets Try.prog 6 laws_FnSeries.S := meets_tabZ laws_FnSeries.Z (S := laws_FnSeries.U) tabOk_all (AllMeets.cons laws_big.meets (AllMeets.cons spec_DrawSeriesOf.meets (AllMeets.cons impl_SeriesOf.meets (AllMeets.cons spec_SeriesOf.meets (AllMeets.cons laws_sameSeries.meets (AllMeets.cons impl_GoodSeries.meets (AllMeets.cons impl_TextAt.meets (AllMeets.cons laws_sameTexts.meets (AllMeets.cons spec_DrawAddText.meets (AllMeets.cons impl_AddText.meets (AllMeets.cons spec_AddText.meets (AllMeets.cons spec_DrawTextAt.meets (AllMeets.cons spec_TextAt.meets (AllMeets.cons spec_DrawSizeOf.meets (AllMeets.cons impl_SizeOf.meets (AllMeets.cons spec_SizeOf.meets (AllMeets.cons spec_GoodSeries.meets AllMeets.nil))))))))))))))))) (AllStill.cons (fun _ _ _ => rfl) (AllStill.cons (fun _ _ _ => rfl) (AllStill.cons (fun _ _ _ => rfl) (AllStill.cons (fun _ _ _ => rfl) (AllStill.cons (fun _ _ _ => rfl) (AllStill.cons (fun _ _ _ => rfl) (AllStill.cons (fun _ _ _ => rfl) (AllStill.cons (fun _ _ _ => rfl) (AllStill.cons (fun _ _ _ => rfl) (AllStill.cons (fun _ _ _ => rfl) (AllStill.cons (fun _ _ _ => rfl) (AllStill.cons (fun _ _ _ => rfl) (AllStill.cons (fun _ _ _ => rfl) (AllStill.cons (fun _ _ _ => rfl) (AllStill.cons (fun _ _ _ => rfl) (AllStill.cons (fun _ _ _ => rfl) (AllStill.cons (fun _ _ _ => rfl) AllStill.nil))))))))))))))))) follows (by kernel_rfl : Try.prog.funcs[6]? = some Try.f6) (by kernel_rfl) (by kernel_rfl) (by kernel_rfl)
end Go.Abs.G
