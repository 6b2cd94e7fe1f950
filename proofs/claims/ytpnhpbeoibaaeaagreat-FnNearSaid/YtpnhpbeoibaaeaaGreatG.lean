import Derived.Test.YtpnhpbeoibaaeaaGreatGB
set_option linter.unusedVariables false
set_option linter.unusedSimpArgs false
set_option linter.unusedSectionVars false
namespace Go.Abs.G
open Go Go.Abs Go.Proofs
noncomputable def laws_big.C : Code := Tryz.f4.body.getD .skip
def laws_big.P : Par := (.cons (.val (.list (.int .u8))) (.cons (.val (.list (.int .u8))) .nil))
noncomputable def laws_big.U : SumTab := []
noncomputable def laws_big.E : Env := mkEnv TY AR laws_big.U
noncomputable def laws_big.T : Tab := fun k => look k []
def laws_big.R : List (Nat × Ty) := [(0, .bool)]
def laws_big.X : List ResultVar := [.tmp 4]
noncomputable def laws_big.f (code : List Int) (more : List Int) : Option (Bool) := Fn laws_big.E laws_big.T laws_big.C laws_big.P laws_big.R laws_big.X (code, more)
theorem laws_big.f_eq (code : List Int) (more : List Int) : laws_big.f code more =
  (bif (decide ((code.length : Int) > 1048576)) then (some true) else (some (decide ((more.length : Int) > (w64 (1048576 - (code.length : Int))))))) := by kernel_rfl
noncomputable def laws_big.S : Abs.Sum := ⟨laws_big.P, laws_big.R, fun _ => Fn laws_big.E laws_big.T laws_big.C laws_big.P laws_big.R laws_big.X⟩
theorem laws_big.meets : Meets Tryz.prog 4 laws_big.S := meets_tab (S := laws_big.U) tabOk_all AllMeets.nil AllStill.nil follows (by kernel_rfl : Tryz.prog.funcs[4]? = some Tryz.f4) (by kernel_rfl) (by kernel_rfl) (by kernel_rfl)
noncomputable def spec_l1Cur_next.C : Code := Tryz.f76.body.getD .skip
def spec_l1Cur_next.P : Par := (.cons (.box 0 (.pair (.list (.int .u8)) (.pair (.int .i64) (.one (.int .u64))))) .nil)
noncomputable def spec_l1Cur_next.U : SumTab := []
noncomputable def spec_l1Cur_next.E : Env := mkEnv TY AR spec_l1Cur_next.U
def spec_l1Cur_next.D9 : CutD := ⟨[0, 3], (.cons (.box 0 (.pair (.list (.int .u8)) (.pair (.int .i64) (.one (.int .u64))))) (.cons (.val (.int .i64)) .nil))⟩
noncomputable def spec_l1Cur_next.T : Tab := fun k => look k [(9, spec_l1Cur_next.D9)]
def spec_l1Cur_next.R : List (Nat × Ty) := [(0, .int .i64)]
def spec_l1Cur_next.X : List ResultVar := [.tmp 2]
noncomputable def spec_l1Cur_next.K := fin spec_l1Cur_next.E ⟨spec_l1Cur_next.P, spec_l1Cur_next.R, fun _ _ => none⟩ spec_l1Cur_next.X spec_l1Cur_next.P.len 0
noncomputable def spec_l1Cur_next.l9 (c : (List Int) × Int × Int) (b : Int) : Option (Int × ((List Int) × Int × Int)) := fixP spec_l1Cur_next.E spec_l1Cur_next.T spec_l1Cur_next.C spec_l1Cur_next.K 9 spec_l1Cur_next.D9 (c, b)
noncomputable def spec_l1Cur_next.f (c : (List Int) × Int × Int) : Option (Int × ((List Int) × Int × Int)) := Fn spec_l1Cur_next.E spec_l1Cur_next.T spec_l1Cur_next.C spec_l1Cur_next.P spec_l1Cur_next.R spec_l1Cur_next.X c
theorem spec_l1Cur_next.l9_eq (c : (List Int) × Int × Int) (b : Int) : spec_l1Cur_next.l9 c b =
  (bif (decide ((w64 (c.2.1 + 1)) ≤ (c.1.length : Int))) then (some (b, c.1, (w64 (c.2.1 + 1)), (IntKind.wrap .u64 ((IntKind.wrap .u64 ((IntKind.wrap .u64 (c.2.2 * 6364136223846793005)) + (IntKind.wrap .u64 b))) + 1442695040888963407)))) else (some ((w64 (andI .u64 (shrI .u64 (IntKind.wrap .u64 ((IntKind.wrap .u64 ((IntKind.wrap .u64 (c.2.2 * 6364136223846793005)) + (IntKind.wrap .u64 b))) + 1442695040888963407)) 40) 255)), c.1, (w64 (c.2.1 + 1)), (IntKind.wrap .u64 ((IntKind.wrap .u64 ((IntKind.wrap .u64 (c.2.2 * 6364136223846793005)) + (IntKind.wrap .u64 b))) + 1442695040888963407))))) :=
  (fixP_eq spec_l1Cur_next.E spec_l1Cur_next.T spec_l1Cur_next.C spec_l1Cur_next.K 9 spec_l1Cur_next.D9 (c, b)).trans (by kernel_rfl)
theorem spec_l1Cur_next.f_eq (c : (List Int) × Int × Int) : spec_l1Cur_next.f c =
  (bif (decide (c.2.1 < (c.1.length : Int))) then (bif ((decide (0 ≤ c.2.1)) && (decide (c.2.1 < (c.1.length : Int)))) then (spec_l1Cur_next.l9 c (w64 (c.1.getD (c.2.1).toNat 0))) else none) else
  (spec_l1Cur_next.l9 c 0)) := by kernel_rfl
noncomputable def spec_l1Cur_next.S : Abs.Sum := ⟨spec_l1Cur_next.P, spec_l1Cur_next.R, fun _ => Fn spec_l1Cur_next.E spec_l1Cur_next.T spec_l1Cur_next.C spec_l1Cur_next.P spec_l1Cur_next.R spec_l1Cur_next.X⟩
theorem spec_l1Cur_next.meets : Meets Tryz.prog 76 spec_l1Cur_next.S := meets_tab (S := spec_l1Cur_next.U) tabOk_all AllMeets.nil AllStill.nil follows (by kernel_rfl : Tryz.prog.funcs[76]? = some Tryz.f76) (by kernel_rfl) (by kernel_rfl) (by kernel_rfl)
noncomputable def spec_l1Cur_pick.C : Code := Tryz.f47.body.getD .skip
def spec_l1Cur_pick.P : Par := (.cons (.box 0 (.pair (.list (.int .u8)) (.pair (.int .i64) (.one (.int .u64))))) (.cons (.val (.int .i64)) .nil))
noncomputable def spec_l1Cur_pick.U : SumTab := [(76, [], spec_l1Cur_next.S)]
noncomputable def spec_l1Cur_pick.E : Env := mkEnv TY AR spec_l1Cur_pick.U
noncomputable def spec_l1Cur_pick.T : Tab := fun k => look k []
def spec_l1Cur_pick.R : List (Nat × Ty) := [(0, .int .i64)]
def spec_l1Cur_pick.X : List ResultVar := [.tmp 4]
noncomputable def spec_l1Cur_pick.f (c : (List Int) × Int × Int) (n : Int) : Option (Int × ((List Int) × Int × Int)) := Fn spec_l1Cur_pick.E spec_l1Cur_pick.T spec_l1Cur_pick.C spec_l1Cur_pick.P spec_l1Cur_pick.R spec_l1Cur_pick.X (c, n)
theorem spec_l1Cur_pick.f_eq (c : (List Int) × Int × Int) (n : Int) : spec_l1Cur_pick.f c n =
  (bif (decide (n ≤ 1)) then (some (0, c)) else
  ((spec_l1Cur_next.f c).bind fun y1 =>
   bif (decide (n > 200)) then ((spec_l1Cur_next.f y1.2).bind fun y2 =>
    bif (!(decide (n = 0))) then (some (((w64 ((w64 (y1.1 * 256)) + y2.1)).tmod n), y2.2)) else none) else
   (bif (!(decide (n = 0))) then (some ((y1.1.tmod n), y1.2)) else none))) := by kernel_rfl
noncomputable def spec_l1Cur_pick.S : Abs.Sum := ⟨spec_l1Cur_pick.P, spec_l1Cur_pick.R, fun _ => Fn spec_l1Cur_pick.E spec_l1Cur_pick.T spec_l1Cur_pick.C spec_l1Cur_pick.P spec_l1Cur_pick.R spec_l1Cur_pick.X⟩
theorem spec_l1Cur_pick.meets : Meets Tryz.prog 47 spec_l1Cur_pick.S := meets_tab (S := spec_l1Cur_pick.U) tabOk_all (AllMeets.cons spec_l1Cur_next.meets AllMeets.nil) (AllStill.cons (fun _ _ _ => rfl) AllStill.nil) follows (by kernel_rfl : Tryz.prog.funcs[47]? = some Tryz.f47) (by kernel_rfl) (by kernel_rfl) (by kernel_rfl)
noncomputable def spec_l1Cur_of.C : Code := Tryz.f55.body.getD .skip
def spec_l1Cur_of.P : Par := (.cons (.box 0 (.pair (.list (.int .u8)) (.pair (.int .i64) (.one (.int .u64))))) (.cons (.own 5 .str) .nil))
noncomputable def spec_l1Cur_of.U : SumTab := [(47, [], spec_l1Cur_pick.S)]
noncomputable def spec_l1Cur_of.E : Env := mkEnv TY AR spec_l1Cur_of.U
noncomputable def spec_l1Cur_of.T : Tab := fun k => look k []
def spec_l1Cur_of.R : List (Nat × Ty) := [(0, .str)]
def spec_l1Cur_of.X : List ResultVar := [.tmp 4]
noncomputable def spec_l1Cur_of.f (c : (List Int) × Int × Int) (list : List ByteArray) : Option (ByteArray × ((List Int) × Int × Int)) := Fn spec_l1Cur_of.E spec_l1Cur_of.T spec_l1Cur_of.C spec_l1Cur_of.P spec_l1Cur_of.R spec_l1Cur_of.X (c, list)
theorem spec_l1Cur_of.f_eq (c : (List Int) × Int × Int) (list : List ByteArray) : spec_l1Cur_of.f c list =
  ((spec_l1Cur_pick.f c (list.length : Int)).bind fun y1 =>
  bif ((decide (0 ≤ y1.1)) && (decide (y1.1 < (list.length : Int)))) then (some ((list.getD (y1.1).toNat em), y1.2)) else none) := by kernel_rfl
noncomputable def spec_l1Cur_of.S : Abs.Sum := ⟨spec_l1Cur_of.P, spec_l1Cur_of.R, fun _ => Fn spec_l1Cur_of.E spec_l1Cur_of.T spec_l1Cur_of.C spec_l1Cur_of.P spec_l1Cur_of.R spec_l1Cur_of.X⟩
theorem spec_l1Cur_of.meets : Meets Tryz.prog 55 spec_l1Cur_of.S := meets_tab (S := spec_l1Cur_of.U) tabOk_all (AllMeets.cons spec_l1Cur_pick.meets AllMeets.nil) (AllStill.cons (fun _ _ _ => rfl) AllStill.nil) follows (by kernel_rfl : Tryz.prog.funcs[55]? = some Tryz.f55) (by kernel_rfl) (by kernel_rfl) (by kernel_rfl)
noncomputable def spec_l1Cur_line.C : Code := Tryz.f78.body.getD .skip
def spec_l1Cur_line.P : Par := (.cons (.box 0 (.pair (.list (.int .u8)) (.pair (.int .i64) (.one (.int .u64))))) .nil)
noncomputable def spec_l1Cur_line.U : SumTab := [(55, [], spec_l1Cur_of.S)]
noncomputable def spec_l1Cur_line.E : Env := mkEnv TY AR spec_l1Cur_line.U
noncomputable def spec_l1Cur_line.T : Tab := fun k => look k []
def spec_l1Cur_line.R : List (Nat × Ty) := [(0, .str)]
def spec_l1Cur_line.X : List ResultVar := [.tmp 2]
noncomputable def spec_l1Cur_line.f (c : (List Int) × Int × Int) : Option (ByteArray × ((List Int) × Int × Int)) := Fn spec_l1Cur_line.E spec_l1Cur_line.T spec_l1Cur_line.C spec_l1Cur_line.P spec_l1Cur_line.R spec_l1Cur_line.X c
theorem spec_l1Cur_line.f_eq (c : (List Int) × Int × Int) : spec_l1Cur_line.f c =
  ((spec_l1Cur_of.f c [(⟨#[97]⟩ : ByteArray), (⟨#[98]⟩ : ByteArray), (⟨#[99]⟩ : ByteArray), (⟨#[100]⟩ : ByteArray), em, (⟨#[46]⟩ : ByteArray), (⟨#[46, 46]⟩ : ByteArray), (⟨#[111, 110, 101, 32, 116, 119, 111]⟩ : ByteArray), (⟨#[43, 120]⟩ : ByteArray), (⟨#[45, 121]⟩ : ByteArray), (⟨#[92, 32, 122]⟩ : ByteArray), (⟨#[64, 64]⟩ : ByteArray)]).bind fun y1 =>
  some (y1.1, y1.2)) := by kernel_rfl
noncomputable def spec_l1Cur_line.S : Abs.Sum := ⟨spec_l1Cur_line.P, spec_l1Cur_line.R, fun _ => Fn spec_l1Cur_line.E spec_l1Cur_line.T spec_l1Cur_line.C spec_l1Cur_line.P spec_l1Cur_line.R spec_l1Cur_line.X⟩
theorem spec_l1Cur_line.meets : Meets Tryz.prog 78 spec_l1Cur_line.S := meets_tab (S := spec_l1Cur_line.U) tabOk_all (AllMeets.cons spec_l1Cur_of.meets AllMeets.nil) (AllStill.cons (fun _ _ _ => rfl) AllStill.nil) follows (by kernel_rfl : Tryz.prog.funcs[78]? = some Tryz.f78) (by kernel_rfl) (by kernel_rfl) (by kernel_rfl)
noncomputable def spec_l1Cur_one.C : Code := Tryz.f23.body.getD .skip
def spec_l1Cur_one.P : Par := (.cons (.box 0 (.pair (.list (.int .u8)) (.pair (.int .i64) (.one (.int .u64))))) (.cons (.val (.int .i64)) .nil))
noncomputable def spec_l1Cur_one.U : SumTab := [(47, [], spec_l1Cur_pick.S)]
noncomputable def spec_l1Cur_one.E : Env := mkEnv TY AR spec_l1Cur_one.U
noncomputable def spec_l1Cur_one.T : Tab := fun k => look k []
def spec_l1Cur_one.R : List (Nat × Ty) := [(0, .bool)]
def spec_l1Cur_one.X : List ResultVar := [.tmp 4]
noncomputable def spec_l1Cur_one.f (c : (List Int) × Int × Int) (n : Int) : Option (Bool × ((List Int) × Int × Int)) := Fn spec_l1Cur_one.E spec_l1Cur_one.T spec_l1Cur_one.C spec_l1Cur_one.P spec_l1Cur_one.R spec_l1Cur_one.X (c, n)
theorem spec_l1Cur_one.f_eq (c : (List Int) × Int × Int) (n : Int) : spec_l1Cur_one.f c n =
  ((spec_l1Cur_pick.f c n).bind fun y1 =>
  some ((decide (y1.1 = 0)), y1.2)) := by kernel_rfl
noncomputable def spec_l1Cur_one.S : Abs.Sum := ⟨spec_l1Cur_one.P, spec_l1Cur_one.R, fun _ => Fn spec_l1Cur_one.E spec_l1Cur_one.T spec_l1Cur_one.C spec_l1Cur_one.P spec_l1Cur_one.R spec_l1Cur_one.X⟩
theorem spec_l1Cur_one.meets : Meets Tryz.prog 23 spec_l1Cur_one.S := meets_tab (S := spec_l1Cur_one.U) tabOk_all (AllMeets.cons spec_l1Cur_pick.meets AllMeets.nil) (AllStill.cons (fun _ _ _ => rfl) AllStill.nil) follows (by kernel_rfl : Tryz.prog.funcs[23]? = some Tryz.f23) (by kernel_rfl) (by kernel_rfl) (by kernel_rfl)
noncomputable def spec_l1Cur_text.C : Code := Tryz.f52.body.getD .skip
def spec_l1Cur_text.P : Par := (.cons (.box 0 (.pair (.list (.int .u8)) (.pair (.int .i64) (.one (.int .u64))))) .nil)
noncomputable def spec_l1Cur_text.U : SumTab := [(47, [], spec_l1Cur_pick.S), (78, [], spec_l1Cur_line.S), (23, [], spec_l1Cur_one.S), (55, [], spec_l1Cur_of.S)]
noncomputable def spec_l1Cur_text.E : Env := mkEnv TY AR spec_l1Cur_text.U
def spec_l1Cur_text.D6 : CutD := ⟨[0, 3, 4], (.cons (.box 0 (.pair (.list (.int .u8)) (.pair (.int .i64) (.one (.int .u64))))) (.cons (.own 9 .str) (.cons (.val (.int .i64)) .nil)))⟩
noncomputable def spec_l1Cur_text.T : Tab := fun k => look k [(6, spec_l1Cur_text.D6)]
def spec_l1Cur_text.R : List (Nat × Ty) := [(9, .list .str)]
def spec_l1Cur_text.X : List ResultVar := [.tmp 2]
noncomputable def spec_l1Cur_text.K := fin spec_l1Cur_text.E ⟨spec_l1Cur_text.P, spec_l1Cur_text.R, fun _ _ => none⟩ spec_l1Cur_text.X spec_l1Cur_text.P.len 0
noncomputable def spec_l1Cur_text.l6 (c : (List Int) × Int × Int) (l : List ByteArray) (n : Int) : Option ((List ByteArray) × ((List Int) × Int × Int)) := fixP spec_l1Cur_text.E spec_l1Cur_text.T spec_l1Cur_text.C spec_l1Cur_text.K 6 spec_l1Cur_text.D6 (c, l, n)
noncomputable def spec_l1Cur_text.f (c : (List Int) × Int × Int) : Option ((List ByteArray) × ((List Int) × Int × Int)) := Fn spec_l1Cur_text.E spec_l1Cur_text.T spec_l1Cur_text.C spec_l1Cur_text.P spec_l1Cur_text.R spec_l1Cur_text.X c
theorem spec_l1Cur_text.l6_eq (c : (List Int) × Int × Int) (l : List ByteArray) (n : Int) : spec_l1Cur_text.l6 c l n =
  (bif (decide (n > 0)) then ((spec_l1Cur_line.f c).bind fun y1 =>
   bif (decide ((y1.1.size + (⟨#[10]⟩ : ByteArray).size) ≤ 9223372036854775807)) then (bif (decide ((l.length + [(y1.1 ++ (⟨#[10]⟩ : ByteArray))].length) ≤ room 16)) then (spec_l1Cur_text.l6 y1.2 (l ++ [(y1.1 ++ (⟨#[10]⟩ : ByteArray))]) (w64 (n - 1))) else none) else none) else
  ((spec_l1Cur_one.f c 5).bind fun y1 =>
   bif y1.1 then ((spec_l1Cur_of.f y1.2 [(⟨#[97]⟩ : ByteArray), (⟨#[101, 110, 100]⟩ : ByteArray), (⟨#[46]⟩ : ByteArray)]).bind fun y2 =>
    bif (decide ((l.length + [y2.1].length) ≤ room 16)) then (some ((l ++ [y2.1]), y2.2)) else none) else (some (l, y1.2)))) :=
  (fixP_eq spec_l1Cur_text.E spec_l1Cur_text.T spec_l1Cur_text.C spec_l1Cur_text.K 6 spec_l1Cur_text.D6 (c, l, n)).trans (by kernel_rfl)
theorem spec_l1Cur_text.f_eq (c : (List Int) × Int × Int) : spec_l1Cur_text.f c =
  ((spec_l1Cur_pick.f c 9).bind fun y1 =>
  spec_l1Cur_text.l6 y1.2 ([] : List ByteArray) y1.1) := by kernel_rfl
noncomputable def spec_l1Cur_text.S : Abs.Sum := ⟨spec_l1Cur_text.P, spec_l1Cur_text.R, fun _ => Fn spec_l1Cur_text.E spec_l1Cur_text.T spec_l1Cur_text.C spec_l1Cur_text.P spec_l1Cur_text.R spec_l1Cur_text.X⟩
theorem spec_l1Cur_text.meets : Meets Tryz.prog 52 spec_l1Cur_text.S := meets_tab (S := spec_l1Cur_text.U) tabOk_all (AllMeets.cons spec_l1Cur_pick.meets (AllMeets.cons spec_l1Cur_line.meets (AllMeets.cons spec_l1Cur_one.meets (AllMeets.cons spec_l1Cur_of.meets AllMeets.nil)))) (AllStill.cons (fun _ _ _ => rfl) (AllStill.cons (fun _ _ _ => rfl) (AllStill.cons (fun _ _ _ => rfl) (AllStill.cons (fun _ _ _ => rfl) AllStill.nil)))) follows (by kernel_rfl : Tryz.prog.funcs[52]? = some Tryz.f52) (by kernel_rfl) (by kernel_rfl) (by kernel_rfl)
noncomputable def spec_l1Least.C : Code := Tryz.f50.body.getD .skip
def spec_l1Least.P : Par := (.cons (.val (.int .i64)) (.cons (.val (.int .i64)) .nil))
noncomputable def spec_l1Least.U : SumTab := []
noncomputable def spec_l1Least.E : Env := mkEnv TY AR spec_l1Least.U
noncomputable def spec_l1Least.T : Tab := fun k => look k []
def spec_l1Least.R : List (Nat × Ty) := [(0, .int .i64)]
def spec_l1Least.X : List ResultVar := [.tmp 4]
noncomputable def spec_l1Least.f (a : Int) (b : Int) : Option (Int) := Fn spec_l1Least.E spec_l1Least.T spec_l1Least.C spec_l1Least.P spec_l1Least.R spec_l1Least.X (a, b)
theorem spec_l1Least.f_eq (a : Int) (b : Int) : spec_l1Least.f a b =
  (bif (decide (a < b)) then (some a) else (some b)) := by kernel_rfl
noncomputable def spec_l1Least.S : Abs.Sum := ⟨spec_l1Least.P, spec_l1Least.R, fun _ => Fn spec_l1Least.E spec_l1Least.T spec_l1Least.C spec_l1Least.P spec_l1Least.R spec_l1Least.X⟩
theorem spec_l1Least.meets : Meets Tryz.prog 50 spec_l1Least.S := meets_tab (S := spec_l1Least.U) tabOk_all AllMeets.nil AllStill.nil follows (by kernel_rfl : Tryz.prog.funcs[50]? = some Tryz.f50) (by kernel_rfl) (by kernel_rfl) (by kernel_rfl)
noncomputable def spec_l1Ends.C : Code := Tryz.f57.body.getD .skip
def spec_l1Ends.P : Par := (.cons (.val .str) .nil)
noncomputable def spec_l1Ends.U : SumTab := []
noncomputable def spec_l1Ends.E : Env := mkEnv TY AR spec_l1Ends.U
noncomputable def spec_l1Ends.T : Tab := fun k => look k []
def spec_l1Ends.R : List (Nat × Ty) := [(0, .bool)]
def spec_l1Ends.X : List ResultVar := [.tmp 2]
noncomputable def spec_l1Ends.f (s : ByteArray) : Option (Bool) := Fn spec_l1Ends.E spec_l1Ends.T spec_l1Ends.C spec_l1Ends.P spec_l1Ends.R spec_l1Ends.X s
theorem spec_l1Ends.f_eq (s : ByteArray) : spec_l1Ends.f s =
  (bif ((decide (0 ≤ (w64 ((s.size : Int) - 1)))) && (decide ((w64 ((s.size : Int) - 1)) < (s.size : Int)))) then (some (decide ((bt s (w64 ((s.size : Int) - 1))) = 10))) else none) := by kernel_rfl
noncomputable def spec_l1Ends.S : Abs.Sum := ⟨spec_l1Ends.P, spec_l1Ends.R, fun _ => Fn spec_l1Ends.E spec_l1Ends.T spec_l1Ends.C spec_l1Ends.P spec_l1Ends.R spec_l1Ends.X⟩
theorem spec_l1Ends.meets : Meets Tryz.prog 57 spec_l1Ends.S := meets_tab (S := spec_l1Ends.U) tabOk_all AllMeets.nil AllStill.nil follows (by kernel_rfl : Tryz.prog.funcs[57]? = some Tryz.f57) (by kernel_rfl) (by kernel_rfl) (by kernel_rfl)
noncomputable def spec_l1Whole.C : Code := Tryz.f81.body.getD .skip
def spec_l1Whole.P : Par := (.cons (.val (.list .str)) .nil)
noncomputable def spec_l1Whole.U : SumTab := [(57, [], spec_l1Ends.S)]
noncomputable def spec_l1Whole.E : Env := mkEnv TY AR spec_l1Whole.U
noncomputable def spec_l1Whole.T : Tab := fun k => look k []
def spec_l1Whole.R : List (Nat × Ty) := [(0, .bool)]
def spec_l1Whole.X : List ResultVar := [.tmp 2]
noncomputable def spec_l1Whole.f (l : List ByteArray) : Option (Bool) := Fn spec_l1Whole.E spec_l1Whole.T spec_l1Whole.C spec_l1Whole.P spec_l1Whole.R spec_l1Whole.X l
theorem spec_l1Whole.f_eq (l : List ByteArray) : spec_l1Whole.f l =
  (bif (decide ((l.length : Int) = 0)) then (some true) else
  (bif ((decide (0 ≤ (w64 ((l.length : Int) - 1)))) && (decide ((w64 ((l.length : Int) - 1)) < (l.length : Int)))) then ((spec_l1Ends.f (l.getD ((w64 ((l.length : Int) - 1))).toNat em)).bind fun y1 =>
    some y1) else none)) := by kernel_rfl
noncomputable def spec_l1Whole.S : Abs.Sum := ⟨spec_l1Whole.P, spec_l1Whole.R, fun _ => Fn spec_l1Whole.E spec_l1Whole.T spec_l1Whole.C spec_l1Whole.P spec_l1Whole.R spec_l1Whole.X⟩
theorem spec_l1Whole.meets : Meets Tryz.prog 81 spec_l1Whole.S := meets_tab (S := spec_l1Whole.U) tabOk_all (AllMeets.cons spec_l1Ends.meets AllMeets.nil) (AllStill.cons (fun _ _ _ => rfl) AllStill.nil) follows (by kernel_rfl : Tryz.prog.funcs[81]? = some Tryz.f81) (by kernel_rfl) (by kernel_rfl) (by kernel_rfl)
noncomputable def spec_l1Cur_hunks.C : Code := Tryz.f54.body.getD .skip
def spec_l1Cur_hunks.P : Par := (.cons (.box 0 (.pair (.list (.int .u8)) (.pair (.int .i64) (.one (.int .u64))))) (.cons (.val (.list .str)) .nil))
noncomputable def spec_l1Cur_hunks.U : SumTab := [(47, [], spec_l1Cur_pick.S), (50, [], spec_l1Least.S), (78, [], spec_l1Cur_line.S), (81, [], spec_l1Whole.S)]
noncomputable def spec_l1Cur_hunks.E : Env := mkEnv TY AR spec_l1Cur_hunks.U
def spec_l1Cur_hunks.D6 : CutD := ⟨[0, 1, 5, 6], (.cons (.box 0 (.pair (.list (.int .u8)) (.pair (.int .i64) (.one (.int .u64))))) (.cons (.val (.list .str)) (.cons (.own 9 (.pair (.int .i64) (.pair (.int .i64) (.one (.list .str))))) (.cons (.val (.int .i64)) .nil))))⟩
def spec_l1Cur_hunks.D9 : CutD := ⟨[0, 1, 5, 6], (.cons (.box 0 (.pair (.list (.int .u8)) (.pair (.int .i64) (.one (.int .u64))))) (.cons (.val (.list .str)) (.cons (.own 9 (.pair (.int .i64) (.pair (.int .i64) (.one (.list .str))))) (.cons (.val (.int .i64)) .nil))))⟩
def spec_l1Cur_hunks.D12 : CutD := ⟨[0, 1, 5, 6, 7, 8], (.cons (.box 0 (.pair (.list (.int .u8)) (.pair (.int .i64) (.one (.int .u64))))) (.cons (.val (.list .str)) (.cons (.own 9 (.pair (.int .i64) (.pair (.int .i64) (.one (.list .str))))) (.cons (.val (.int .i64)) (.cons (.box 9 (.pair (.int .i64) (.pair (.int .i64) (.one (.list .str))))) (.cons (.val (.int .i64)) .nil))))))⟩
noncomputable def spec_l1Cur_hunks.T : Tab := fun k => look k [(6, spec_l1Cur_hunks.D6), (9, spec_l1Cur_hunks.D9), (12, spec_l1Cur_hunks.D12)]
def spec_l1Cur_hunks.R : List (Nat × Ty) := [(9, .list (.pair (.int .i64) (.pair (.int .i64) (.one (.list .str)))))]
def spec_l1Cur_hunks.X : List ResultVar := [.tmp 4]
noncomputable def spec_l1Cur_hunks.K := fin spec_l1Cur_hunks.E ⟨spec_l1Cur_hunks.P, spec_l1Cur_hunks.R, fun _ _ => none⟩ spec_l1Cur_hunks.X spec_l1Cur_hunks.P.len 0
noncomputable def spec_l1Cur_hunks.l6 (c : (List Int) × Int × Int) (l : List ByteArray) (out : List (Int × Int × List ByteArray)) (t6 : Int) : Option ((List (Int × Int × List ByteArray)) × ((List Int) × Int × Int)) := fixP spec_l1Cur_hunks.E spec_l1Cur_hunks.T spec_l1Cur_hunks.C spec_l1Cur_hunks.K 6 spec_l1Cur_hunks.D6 (c, l, out, t6)
noncomputable def spec_l1Cur_hunks.l9 (c : (List Int) × Int × Int) (l : List ByteArray) (out : List (Int × Int × List ByteArray)) (t6 : Int) : Option ((List (Int × Int × List ByteArray)) × ((List Int) × Int × Int)) := fixP spec_l1Cur_hunks.E spec_l1Cur_hunks.T spec_l1Cur_hunks.C spec_l1Cur_hunks.K 9 spec_l1Cur_hunks.D9 (c, l, out, t6)
noncomputable def spec_l1Cur_hunks.l12 (c : (List Int) × Int × Int) (l : List ByteArray) (out : List (Int × Int × List ByteArray)) (t6 : Int) (x : Int × Int × List ByteArray) (n : Int) : Option ((List (Int × Int × List ByteArray)) × ((List Int) × Int × Int)) := fixP spec_l1Cur_hunks.E spec_l1Cur_hunks.T spec_l1Cur_hunks.C spec_l1Cur_hunks.K 12 spec_l1Cur_hunks.D12 (c, l, out, t6, x, n)
noncomputable def spec_l1Cur_hunks.f (c : (List Int) × Int × Int) (l : List ByteArray) : Option ((List (Int × Int × List ByteArray)) × ((List Int) × Int × Int)) := Fn spec_l1Cur_hunks.E spec_l1Cur_hunks.T spec_l1Cur_hunks.C spec_l1Cur_hunks.P spec_l1Cur_hunks.R spec_l1Cur_hunks.X (c, l)
theorem spec_l1Cur_hunks.l6_eq (c : (List Int) × Int × Int) (l : List ByteArray) (out : List (Int × Int × List ByteArray)) (t6 : Int) : spec_l1Cur_hunks.l6 c l out t6 =
  (bif (decide (t6 ≤ (l.length : Int))) then (bif (decide ((out.length : Int) < 6)) then (spec_l1Cur_hunks.l9 c l out t6) else (some (out, c))) else (some (out, c))) :=
  (fixP_eq spec_l1Cur_hunks.E spec_l1Cur_hunks.T spec_l1Cur_hunks.C spec_l1Cur_hunks.K 6 spec_l1Cur_hunks.D6 (c, l, out, t6)).trans (by kernel_rfl)
theorem spec_l1Cur_hunks.l9_eq (c : (List Int) × Int × Int) (l : List ByteArray) (out : List (Int × Int × List ByteArray)) (t6 : Int) : spec_l1Cur_hunks.l9 c l out t6 =
  ((spec_l1Least.f 3 (w64 ((l.length : Int) - t6))).bind fun y1 =>
  (spec_l1Cur_pick.f c (w64 (y1 + 1))).bind fun y2 =>
  (spec_l1Cur_pick.f y2.2 3).bind fun y3 =>
  spec_l1Cur_hunks.l12 y3.2 l out t6 (t6, y2.1, ([] : List ByteArray)) y3.1) :=
  (fixP_eq spec_l1Cur_hunks.E spec_l1Cur_hunks.T spec_l1Cur_hunks.C spec_l1Cur_hunks.K 9 spec_l1Cur_hunks.D9 (c, l, out, t6)).trans (by kernel_rfl)
theorem spec_l1Cur_hunks.l12_eq (c : (List Int) × Int × Int) (l : List ByteArray) (out : List (Int × Int × List ByteArray)) (t6 : Int) (x : Int × Int × List ByteArray) (n : Int) : spec_l1Cur_hunks.l12 c l out t6 x n =
  (bif (decide (n > 0)) then ((spec_l1Cur_line.f c).bind fun y1 =>
   bif (decide ((y1.1.size + (⟨#[10]⟩ : ByteArray).size) ≤ 9223372036854775807)) then (bif (decide ((x.2.2.length + [(y1.1 ++ (⟨#[10]⟩ : ByteArray))].length) ≤ room 16)) then (spec_l1Cur_hunks.l12 y1.2 l out t6 (x.1, x.2.1, (x.2.2 ++ [(y1.1 ++ (⟨#[10]⟩ : ByteArray))])) (w64 (n - 1))) else none) else none) else
  (bif (decide ((w64 (x.2.1 + (x.2.2.length : Int))) > 0)) then (bif (decide ((w64 (t6 + x.2.1)) < (l.length : Int))) then (bif (decide ((out.length + [(x.1, x.2.1, x.2.2)].length) ≤ room 40)) then ((spec_l1Cur_pick.f c 3).bind fun y1 =>
      spec_l1Cur_hunks.l6 y1.2 l (out ++ [(x.1, x.2.1, x.2.2)]) (w64 (t6 + (w64 ((w64 (x.2.1 + 1)) + y1.1))))) else none) else
    ((spec_l1Whole.f l).bind fun y1 =>
     bif y1 then (bif (decide ((out.length + [(x.1, x.2.1, x.2.2)].length) ≤ room 40)) then ((spec_l1Cur_pick.f c 3).bind fun y2 =>
       spec_l1Cur_hunks.l6 y2.2 l (out ++ [(x.1, x.2.1, x.2.2)]) (w64 (t6 + (w64 ((w64 (x.2.1 + 1)) + y2.1))))) else none) else
     (bif (decide (x.2.1 > 0)) then (bif (decide ((out.length + [(x.1, x.2.1, x.2.2)].length) ≤ room 40)) then ((spec_l1Cur_pick.f c 3).bind fun y2 =>
        spec_l1Cur_hunks.l6 y2.2 l (out ++ [(x.1, x.2.1, x.2.2)]) (w64 (t6 + (w64 ((w64 (x.2.1 + 1)) + y2.1))))) else none) else
      ((spec_l1Cur_pick.f c 3).bind fun y2 =>
       spec_l1Cur_hunks.l6 y2.2 l out (w64 (t6 + (w64 ((w64 (x.2.1 + 1)) + y2.1)))))))) else
   ((spec_l1Cur_pick.f c 3).bind fun y1 =>
    spec_l1Cur_hunks.l6 y1.2 l out (w64 (t6 + (w64 ((w64 (x.2.1 + 1)) + y1.1))))))) :=
  (fixP_eq spec_l1Cur_hunks.E spec_l1Cur_hunks.T spec_l1Cur_hunks.C spec_l1Cur_hunks.K 12 spec_l1Cur_hunks.D12 (c, l, out, t6, x, n)).trans (by kernel_rfl)
theorem spec_l1Cur_hunks.f_eq (c : (List Int) × Int × Int) (l : List ByteArray) : spec_l1Cur_hunks.f c l =
  ((spec_l1Cur_pick.f c 3).bind fun y1 =>
  spec_l1Cur_hunks.l6 y1.2 l ([] : List (Int × Int × List ByteArray)) y1.1) := by kernel_rfl
noncomputable def spec_l1Cur_hunks.S : Abs.Sum := ⟨spec_l1Cur_hunks.P, spec_l1Cur_hunks.R, fun _ => Fn spec_l1Cur_hunks.E spec_l1Cur_hunks.T spec_l1Cur_hunks.C spec_l1Cur_hunks.P spec_l1Cur_hunks.R spec_l1Cur_hunks.X⟩
theorem spec_l1Cur_hunks.meets : Meets Tryz.prog 54 spec_l1Cur_hunks.S := meets_tab (S := spec_l1Cur_hunks.U) tabOk_all (AllMeets.cons spec_l1Cur_pick.meets (AllMeets.cons spec_l1Least.meets (AllMeets.cons spec_l1Cur_line.meets (AllMeets.cons spec_l1Whole.meets AllMeets.nil)))) (AllStill.cons (fun _ _ _ => rfl) (AllStill.cons (fun _ _ _ => rfl) (AllStill.cons (fun _ _ _ => rfl) (AllStill.cons (fun _ _ _ => rfl) AllStill.nil)))) follows (by kernel_rfl : Tryz.prog.funcs[54]? = some Tryz.f54) (by kernel_rfl) (by kernel_rfl) (by kernel_rfl)
noncomputable def spec_l1Cur_among.C : Code := Tryz.f25.body.getD .skip
def spec_l1Cur_among.P : Par := (.cons (.box 0 (.pair (.list (.int .u8)) (.pair (.int .i64) (.one (.int .u64))))) (.cons (.own 5 (.int .i64)) .nil))
noncomputable def spec_l1Cur_among.U : SumTab := [(47, [], spec_l1Cur_pick.S)]
noncomputable def spec_l1Cur_among.E : Env := mkEnv TY AR spec_l1Cur_among.U
noncomputable def spec_l1Cur_among.T : Tab := fun k => look k []
def spec_l1Cur_among.R : List (Nat × Ty) := [(0, .int .i64)]
def spec_l1Cur_among.X : List ResultVar := [.tmp 4]
noncomputable def spec_l1Cur_among.f (c : (List Int) × Int × Int) (list : List Int) : Option (Int × ((List Int) × Int × Int)) := Fn spec_l1Cur_among.E spec_l1Cur_among.T spec_l1Cur_among.C spec_l1Cur_among.P spec_l1Cur_among.R spec_l1Cur_among.X (c, list)
theorem spec_l1Cur_among.f_eq (c : (List Int) × Int × Int) (list : List Int) : spec_l1Cur_among.f c list =
  ((spec_l1Cur_pick.f c (list.length : Int)).bind fun y1 =>
  bif ((decide (0 ≤ y1.1)) && (decide (y1.1 < (list.length : Int)))) then (some ((list.getD (y1.1).toNat 0), y1.2)) else none) := by kernel_rfl
noncomputable def spec_l1Cur_among.S : Abs.Sum := ⟨spec_l1Cur_among.P, spec_l1Cur_among.R, fun _ => Fn spec_l1Cur_among.E spec_l1Cur_among.T spec_l1Cur_among.C spec_l1Cur_among.P spec_l1Cur_among.R spec_l1Cur_among.X⟩
theorem spec_l1Cur_among.meets : Meets Tryz.prog 25 spec_l1Cur_among.S := meets_tab (S := spec_l1Cur_among.U) tabOk_all (AllMeets.cons spec_l1Cur_pick.meets AllMeets.nil) (AllStill.cons (fun _ _ _ => rfl) AllStill.nil) follows (by kernel_rfl : Tryz.prog.funcs[25]? = some Tryz.f25) (by kernel_rfl) (by kernel_rfl) (by kernel_rfl)
noncomputable def spec_l1In.C : Code := Tryz.f35.body.getD .skip
def spec_l1In.P : Par := (.cons (.val (.int .i64)) (.cons (.val (.int .i64)) (.cons (.val (.int .i64)) .nil)))
noncomputable def spec_l1In.U : SumTab := []
noncomputable def spec_l1In.E : Env := mkEnv TY AR spec_l1In.U
noncomputable def spec_l1In.T : Tab := fun k => look k []
def spec_l1In.R : List (Nat × Ty) := [(0, .bool)]
def spec_l1In.X : List ResultVar := [.tmp 6]
noncomputable def spec_l1In.f (n : Int) (lo : Int) (hi : Int) : Option (Bool) := Fn spec_l1In.E spec_l1In.T spec_l1In.C spec_l1In.P spec_l1In.R spec_l1In.X (n, lo, hi)
theorem spec_l1In.f_eq (n : Int) (lo : Int) (hi : Int) : spec_l1In.f n lo hi =
  (bif (decide (n ≥ lo)) then (some (decide (n ≤ hi))) else (some false)) := by kernel_rfl
noncomputable def spec_l1In.S : Abs.Sum := ⟨spec_l1In.P, spec_l1In.R, fun _ => Fn spec_l1In.E spec_l1In.T spec_l1In.C spec_l1In.P spec_l1In.R spec_l1In.X⟩
theorem spec_l1In.meets : Meets Tryz.prog 35 spec_l1In.S := meets_tab (S := spec_l1In.U) tabOk_all AllMeets.nil AllStill.nil follows (by kernel_rfl : Tryz.prog.funcs[35]? = some Tryz.f35) (by kernel_rfl) (by kernel_rfl) (by kernel_rfl)
noncomputable def spec_l1Line.C : Code := Tryz.f51.body.getD .skip
def spec_l1Line.P : Par := (.cons (.val .str) .nil)
noncomputable def spec_l1Line.U : SumTab := [(35, [], spec_l1In.S)]
noncomputable def spec_l1Line.E : Env := mkEnv TY AR spec_l1Line.U
def spec_l1Line.D4 : CutD := ⟨[0, 3], (.cons (.val .str) (.cons (.val (.int .i64)) .nil))⟩
noncomputable def spec_l1Line.T : Tab := fun k => look k [(4, spec_l1Line.D4)]
def spec_l1Line.R : List (Nat × Ty) := [(0, .bool)]
def spec_l1Line.X : List ResultVar := [.tmp 2]
noncomputable def spec_l1Line.K := fin spec_l1Line.E ⟨spec_l1Line.P, spec_l1Line.R, fun _ _ => none⟩ spec_l1Line.X spec_l1Line.P.len 0
noncomputable def spec_l1Line.l4 (s : ByteArray) (i : Int) : Option (Bool) := fixP spec_l1Line.E spec_l1Line.T spec_l1Line.C spec_l1Line.K 4 spec_l1Line.D4 (s, i)
noncomputable def spec_l1Line.f (s : ByteArray) : Option (Bool) := Fn spec_l1Line.E spec_l1Line.T spec_l1Line.C spec_l1Line.P spec_l1Line.R spec_l1Line.X s
theorem spec_l1Line.l4_eq (s : ByteArray) (i : Int) : spec_l1Line.l4 s i =
  (bif (decide (i < (w64 ((s.size : Int) - 1)))) then (bif ((decide (0 ≤ i)) && (decide (i < (s.size : Int)))) then (bif (decide ((bt s i) = 10)) then (some false) else
    (spec_l1Line.l4 s (w64 (i + 1)))) else none) else
  ((spec_l1In.f (s.size : Int) 1 30).bind fun y1 =>
   some y1)) :=
  (fixP_eq spec_l1Line.E spec_l1Line.T spec_l1Line.C spec_l1Line.K 4 spec_l1Line.D4 (s, i)).trans (by kernel_rfl)
theorem spec_l1Line.f_eq (s : ByteArray) : spec_l1Line.f s =
  (spec_l1Line.l4 s 0) := by kernel_rfl
noncomputable def spec_l1Line.S : Abs.Sum := ⟨spec_l1Line.P, spec_l1Line.R, fun _ => Fn spec_l1Line.E spec_l1Line.T spec_l1Line.C spec_l1Line.P spec_l1Line.R spec_l1Line.X⟩
theorem spec_l1Line.meets : Meets Tryz.prog 51 spec_l1Line.S := meets_tab (S := spec_l1Line.U) tabOk_all (AllMeets.cons spec_l1In.meets AllMeets.nil) (AllStill.cons (fun _ _ _ => rfl) AllStill.nil) follows (by kernel_rfl : Tryz.prog.funcs[51]? = some Tryz.f51) (by kernel_rfl) (by kernel_rfl) (by kernel_rfl)
noncomputable def spec_l1Good.C : Code := Tryz.f24.body.getD .skip
def spec_l1Good.P : Par := (.cons (.val (.list .str)) .nil)
noncomputable def spec_l1Good.U : SumTab := [(51, [], spec_l1Line.S), (57, [], spec_l1Ends.S)]
noncomputable def spec_l1Good.E : Env := mkEnv TY AR spec_l1Good.U
def spec_l1Good.D4 : CutD := ⟨[0, 5, 6, 7], (.cons (.val (.list .str)) (.cons (.val (.list .str)) (.cons (.val (.int .i64)) (.cons (.val (.int .i64)) .nil))))⟩
noncomputable def spec_l1Good.T : Tab := fun k => look k [(4, spec_l1Good.D4)]
def spec_l1Good.R : List (Nat × Ty) := [(0, .bool)]
def spec_l1Good.X : List ResultVar := [.tmp 2]
noncomputable def spec_l1Good.K := fin spec_l1Good.E ⟨spec_l1Good.P, spec_l1Good.R, fun _ _ => none⟩ spec_l1Good.X spec_l1Good.P.len 0
noncomputable def spec_l1Good.l4 (l : List ByteArray) (t5 : List ByteArray) (t6 : Int) (t7 : Int) : Option (Bool) := fixP spec_l1Good.E spec_l1Good.T spec_l1Good.C spec_l1Good.K 4 spec_l1Good.D4 (l, t5, t6, t7)
noncomputable def spec_l1Good.f (l : List ByteArray) : Option (Bool) := Fn spec_l1Good.E spec_l1Good.T spec_l1Good.C spec_l1Good.P spec_l1Good.R spec_l1Good.X l
theorem spec_l1Good.l4_eq (l : List ByteArray) (t5 : List ByteArray) (t6 : Int) (t7 : Int) : spec_l1Good.l4 l t5 t6 t7 =
  (bif (decide (t7 < t6)) then (bif ((decide (0 ≤ t7)) && (decide (t7 < (t5.length : Int)))) then ((spec_l1Line.f (t5.getD (t7).toNat em)).bind fun y1 =>
    bif (!y1) then (some false) else
    (bif (decide (t7 < (w64 ((l.length : Int) - 1)))) then ((spec_l1Ends.f (t5.getD (t7).toNat em)).bind fun y2 =>
      bif (!y2) then (some false) else
      (spec_l1Good.l4 l t5 t6 (w64 (t7 + 1)))) else
     (spec_l1Good.l4 l t5 t6 (w64 (t7 + 1))))) else none) else (some (decide ((l.length : Int) ≤ 40)))) :=
  (fixP_eq spec_l1Good.E spec_l1Good.T spec_l1Good.C spec_l1Good.K 4 spec_l1Good.D4 (l, t5, t6, t7)).trans (by kernel_rfl)
theorem spec_l1Good.f_eq (l : List ByteArray) : spec_l1Good.f l =
  (spec_l1Good.l4 l l (l.length : Int) 0) := by kernel_rfl
noncomputable def spec_l1Good.S : Abs.Sum := ⟨spec_l1Good.P, spec_l1Good.R, fun _ => Fn spec_l1Good.E spec_l1Good.T spec_l1Good.C spec_l1Good.P spec_l1Good.R spec_l1Good.X⟩
theorem spec_l1Good.meets : Meets Tryz.prog 24 spec_l1Good.S := meets_tab (S := spec_l1Good.U) tabOk_all (AllMeets.cons spec_l1Line.meets (AllMeets.cons spec_l1Ends.meets AllMeets.nil)) (AllStill.cons (fun _ _ _ => rfl) (AllStill.cons (fun _ _ _ => rfl) AllStill.nil)) follows (by kernel_rfl : Tryz.prog.funcs[24]? = some Tryz.f24) (by kernel_rfl) (by kernel_rfl) (by kernel_rfl)
noncomputable def spec_l2Hunks.C : Code := Tryz.f94.body.getD .skip
def spec_l2Hunks.P : Par := (.cons (.val (.int .i64)) (.cons (.val (.list (.pair (.int .i64) (.pair (.int .i64) (.one (.list .str)))))) .nil))
noncomputable def spec_l2Hunks.U : SumTab := [(51, [], spec_l1Line.S), (35, [], spec_l1In.S)]
noncomputable def spec_l2Hunks.E : Env := mkEnv TY AR spec_l2Hunks.U
def spec_l2Hunks.D4 : CutD := ⟨[0, 1, 9, 10, 11], (.cons (.val (.int .i64)) (.cons (.val (.list (.pair (.int .i64) (.pair (.int .i64) (.one (.list .str)))))) (.cons (.val (.list (.pair (.int .i64) (.pair (.int .i64) (.one (.list .str)))))) (.cons (.val (.int .i64)) (.cons (.val (.int .i64)) .nil)))))⟩
def spec_l2Hunks.D13 : CutD := ⟨[0, 1, 6, 9, 10, 11], (.cons (.val (.int .i64)) (.cons (.val (.list (.pair (.int .i64) (.pair (.int .i64) (.one (.list .str)))))) (.cons (.box 0 (.pair (.int .i64) (.pair (.int .i64) (.one (.list .str))))) (.cons (.val (.list (.pair (.int .i64) (.pair (.int .i64) (.one (.list .str)))))) (.cons (.val (.int .i64)) (.cons (.val (.int .i64)) .nil))))))⟩
def spec_l2Hunks.D14 : CutD := ⟨[0, 1, 9, 10, 11, 77, 78, 79], (.cons (.val (.int .i64)) (.cons (.val (.list (.pair (.int .i64) (.pair (.int .i64) (.one (.list .str)))))) (.cons (.val (.list (.pair (.int .i64) (.pair (.int .i64) (.one (.list .str)))))) (.cons (.val (.int .i64)) (.cons (.val (.int .i64)) (.cons (.val (.list .str)) (.cons (.val (.int .i64)) (.cons (.val (.int .i64)) .nil))))))))⟩
noncomputable def spec_l2Hunks.T : Tab := fun k => look k [(4, spec_l2Hunks.D4), (13, spec_l2Hunks.D13), (14, spec_l2Hunks.D14)]
def spec_l2Hunks.R : List (Nat × Ty) := [(0, .bool)]
def spec_l2Hunks.X : List ResultVar := [.tmp 4]
noncomputable def spec_l2Hunks.K := fin spec_l2Hunks.E ⟨spec_l2Hunks.P, spec_l2Hunks.R, fun _ _ => none⟩ spec_l2Hunks.X spec_l2Hunks.P.len 0
noncomputable def spec_l2Hunks.l4 (many : Int) (h : List (Int × Int × List ByteArray)) (t9 : List (Int × Int × List ByteArray)) (t10 : Int) (t11 : Int) : Option (Bool) := fixP spec_l2Hunks.E spec_l2Hunks.T spec_l2Hunks.C spec_l2Hunks.K 4 spec_l2Hunks.D4 (many, h, t9, t10, t11)
noncomputable def spec_l2Hunks.l13 (many : Int) (h : List (Int × Int × List ByteArray)) (x : Int × Int × List ByteArray) (t9 : List (Int × Int × List ByteArray)) (t10 : Int) (t11 : Int) : Option (Bool) := fixP spec_l2Hunks.E spec_l2Hunks.T spec_l2Hunks.C spec_l2Hunks.K 13 spec_l2Hunks.D13 (many, h, x, t9, t10, t11)
noncomputable def spec_l2Hunks.l14 (many : Int) (h : List (Int × Int × List ByteArray)) (t9 : List (Int × Int × List ByteArray)) (t10 : Int) (t11 : Int) (t77 : List ByteArray) (t78 : Int) (t79 : Int) : Option (Bool) := fixP spec_l2Hunks.E spec_l2Hunks.T spec_l2Hunks.C spec_l2Hunks.K 14 spec_l2Hunks.D14 (many, h, t9, t10, t11, t77, t78, t79)
noncomputable def spec_l2Hunks.f (many : Int) (h : List (Int × Int × List ByteArray)) : Option (Bool) := Fn spec_l2Hunks.E spec_l2Hunks.T spec_l2Hunks.C spec_l2Hunks.P spec_l2Hunks.R spec_l2Hunks.X (many, h)
theorem spec_l2Hunks.l4_eq (many : Int) (h : List (Int × Int × List ByteArray)) (t9 : List (Int × Int × List ByteArray)) (t10 : Int) (t11 : Int) : spec_l2Hunks.l4 many h t9 t10 t11 =
  (bif (decide (t11 < t10)) then (bif ((decide (0 ≤ t11)) && (decide (t11 < (t9.length : Int)))) then (bif (decide ((t9.getD (t11).toNat (0, 0, ([] : List ByteArray))).1 < 0)) then (some false) else
    (bif (decide ((t9.getD (t11).toNat (0, 0, ([] : List ByteArray))).2.1 < 0)) then (some false) else
     (bif (decide ((t9.getD (t11).toNat (0, 0, ([] : List ByteArray))).2.1 > many)) then (some false) else
      (bif (decide ((t9.getD (t11).toNat (0, 0, ([] : List ByteArray))).1 > (w64 (many - (t9.getD (t11).toNat (0, 0, ([] : List ByteArray))).2.1)))) then (some false) else
       (bif (decide ((w64 ((t9.getD (t11).toNat (0, 0, ([] : List ByteArray))).2.1 + ((t9.getD (t11).toNat (0, 0, ([] : List ByteArray))).2.2.length : Int))) = 0)) then (some false) else
        (bif (decide (((t9.getD (t11).toNat (0, 0, ([] : List ByteArray))).2.2.length : Int) > 40)) then (some false) else
         (bif (decide (t11 > 0)) then (bif ((decide (0 ≤ (w64 (t11 - 1)))) && (decide ((w64 (t11 - 1)) < (h.length : Int)))) then (bif ((decide (0 ≤ (w64 (t11 - 1)))) && (decide ((w64 (t11 - 1)) < (h.length : Int)))) then (bif (decide ((t9.getD (t11).toNat (0, 0, ([] : List ByteArray))).1 ≤ (w64 ((h.getD ((w64 (t11 - 1))).toNat (0, 0, ([] : List ByteArray))).1 + (h.getD ((w64 (t11 - 1))).toNat (0, 0, ([] : List ByteArray))).2.1)))) then (some false) else
             (spec_l2Hunks.l13 many h (t9.getD (t11).toNat (0, 0, ([] : List ByteArray))) t9 t10 t11)) else none) else none) else
          (spec_l2Hunks.l13 many h (t9.getD (t11).toNat (0, 0, ([] : List ByteArray))) t9 t10 t11)))))))) else none) else
  (bif (decide ((h.length : Int) ≤ 20)) then ((spec_l1In.f many 0 40).bind fun y1 =>
    some y1) else (some false))) :=
  (fixP_eq spec_l2Hunks.E spec_l2Hunks.T spec_l2Hunks.C spec_l2Hunks.K 4 spec_l2Hunks.D4 (many, h, t9, t10, t11)).trans (by kernel_rfl)
theorem spec_l2Hunks.l13_eq (many : Int) (h : List (Int × Int × List ByteArray)) (x : Int × Int × List ByteArray) (t9 : List (Int × Int × List ByteArray)) (t10 : Int) (t11 : Int) : spec_l2Hunks.l13 many h x t9 t10 t11 =
  (spec_l2Hunks.l14 many h t9 t10 t11 x.2.2 (x.2.2.length : Int) 0) :=
  (fixP_eq spec_l2Hunks.E spec_l2Hunks.T spec_l2Hunks.C spec_l2Hunks.K 13 spec_l2Hunks.D13 (many, h, x, t9, t10, t11)).trans (by kernel_rfl)
theorem spec_l2Hunks.l14_eq (many : Int) (h : List (Int × Int × List ByteArray)) (t9 : List (Int × Int × List ByteArray)) (t10 : Int) (t11 : Int) (t77 : List ByteArray) (t78 : Int) (t79 : Int) : spec_l2Hunks.l14 many h t9 t10 t11 t77 t78 t79 =
  (bif (decide (t79 < t78)) then (bif ((decide (0 ≤ t79)) && (decide (t79 < (t77.length : Int)))) then ((spec_l1Line.f (t77.getD (t79).toNat em)).bind fun y1 =>
    bif (!y1) then (some false) else
    (spec_l2Hunks.l14 many h t9 t10 t11 t77 t78 (w64 (t79 + 1)))) else none) else
  (spec_l2Hunks.l4 many h t9 t10 (w64 (t11 + 1)))) :=
  (fixP_eq spec_l2Hunks.E spec_l2Hunks.T spec_l2Hunks.C spec_l2Hunks.K 14 spec_l2Hunks.D14 (many, h, t9, t10, t11, t77, t78, t79)).trans (by kernel_rfl)
theorem spec_l2Hunks.f_eq (many : Int) (h : List (Int × Int × List ByteArray)) : spec_l2Hunks.f many h =
  (spec_l2Hunks.l4 many h h (h.length : Int) 0) := by kernel_rfl
noncomputable def spec_l2Hunks.S : Abs.Sum := ⟨spec_l2Hunks.P, spec_l2Hunks.R, fun _ => Fn spec_l2Hunks.E spec_l2Hunks.T spec_l2Hunks.C spec_l2Hunks.P spec_l2Hunks.R spec_l2Hunks.X⟩
theorem spec_l2Hunks.meets : Meets Tryz.prog 94 spec_l2Hunks.S := meets_tab (S := spec_l2Hunks.U) tabOk_all (AllMeets.cons spec_l1Line.meets (AllMeets.cons spec_l1In.meets AllMeets.nil)) (AllStill.cons (fun _ _ _ => rfl) (AllStill.cons (fun _ _ _ => rfl) AllStill.nil)) follows (by kernel_rfl : Tryz.prog.funcs[94]? = some Tryz.f94) (by kernel_rfl) (by kernel_rfl) (by kernel_rfl)
noncomputable def spec_l2Asked.C : Code := Tryz.f88.body.getD .skip
def spec_l2Asked.P : Par := (.cons (.val (.list .str)) (.cons (.val (.list (.pair (.int .i64) (.pair (.int .i64) (.one (.list .str)))))) .nil))
noncomputable def spec_l2Asked.U : SumTab := [(24, [], spec_l1Good.S), (94, [], spec_l2Hunks.S)]
noncomputable def spec_l2Asked.E : Env := mkEnv TY AR spec_l2Asked.U
noncomputable def spec_l2Asked.T : Tab := fun k => look k []
def spec_l2Asked.R : List (Nat × Ty) := [(0, .bool)]
def spec_l2Asked.X : List ResultVar := [.tmp 4]
noncomputable def spec_l2Asked.f (l : List ByteArray) (h : List (Int × Int × List ByteArray)) : Option (Bool) := Fn spec_l2Asked.E spec_l2Asked.T spec_l2Asked.C spec_l2Asked.P spec_l2Asked.R spec_l2Asked.X (l, h)
theorem spec_l2Asked.f_eq (l : List ByteArray) (h : List (Int × Int × List ByteArray)) : spec_l2Asked.f l h =
  ((spec_l1Good.f l).bind fun y1 =>
  bif y1 then ((spec_l2Hunks.f (l.length : Int) h).bind fun y2 =>
   some y2) else (some false)) := by kernel_rfl
noncomputable def spec_l2Asked.S : Abs.Sum := ⟨spec_l2Asked.P, spec_l2Asked.R, fun _ => Fn spec_l2Asked.E spec_l2Asked.T spec_l2Asked.C spec_l2Asked.P spec_l2Asked.R spec_l2Asked.X⟩
theorem spec_l2Asked.meets : Meets Tryz.prog 88 spec_l2Asked.S := meets_tab (S := spec_l2Asked.U) tabOk_all (AllMeets.cons spec_l1Good.meets (AllMeets.cons spec_l2Hunks.meets AllMeets.nil)) (AllStill.cons (fun _ _ _ => rfl) (AllStill.cons (fun _ _ _ => rfl) AllStill.nil)) follows (by kernel_rfl : Tryz.prog.funcs[88]? = some Tryz.f88) (by kernel_rfl) (by kernel_rfl) (by kernel_rfl)
noncomputable def spec_l2Patch.C : Code := Tryz.f89.body.getD .skip
def spec_l2Patch.P : Par := (.cons (.val (.list .str)) (.cons (.val (.list (.pair (.int .i64) (.pair (.int .i64) (.one (.list .str)))))) .nil))
noncomputable def spec_l2Patch.U : SumTab := []
noncomputable def spec_l2Patch.E : Env := mkEnv TY AR spec_l2Patch.U
def spec_l2Patch.D8 : CutD := ⟨[0, 5, 6, 9, 10, 11], (.cons (.val (.list .str)) (.cons (.own 9 .str) (.cons (.val (.int .i64)) (.cons (.val (.list (.pair (.int .i64) (.pair (.int .i64) (.one (.list .str)))))) (.cons (.val (.int .i64)) (.cons (.val (.int .i64)) .nil))))))⟩
noncomputable def spec_l2Patch.T : Tab := fun k => look k [(8, spec_l2Patch.D8)]
def spec_l2Patch.R : List (Nat × Ty) := [(9, .list .str)]
def spec_l2Patch.X : List ResultVar := [.tmp 4]
noncomputable def spec_l2Patch.K := fin spec_l2Patch.E ⟨spec_l2Patch.P, spec_l2Patch.R, fun _ _ => none⟩ spec_l2Patch.X spec_l2Patch.P.len 0
noncomputable def spec_l2Patch.l8 (l : List ByteArray) (out : List ByteArray) (t6 : Int) (t9 : List (Int × Int × List ByteArray)) (t10 : Int) (t11 : Int) : Option ((List ByteArray)) := fixP spec_l2Patch.E spec_l2Patch.T spec_l2Patch.C spec_l2Patch.K 8 spec_l2Patch.D8 (l, out, t6, t9, t10, t11)
noncomputable def spec_l2Patch.f (l : List ByteArray) (h : List (Int × Int × List ByteArray)) : Option ((List ByteArray)) := Fn spec_l2Patch.E spec_l2Patch.T spec_l2Patch.C spec_l2Patch.P spec_l2Patch.R spec_l2Patch.X (l, h)
theorem spec_l2Patch.l8_eq (l : List ByteArray) (out : List ByteArray) (t6 : Int) (t9 : List (Int × Int × List ByteArray)) (t10 : Int) (t11 : Int) : spec_l2Patch.l8 l out t6 t9 t10 t11 =
  (bif (decide (t11 < t10)) then (bif ((decide (0 ≤ t11)) && (decide (t11 < (t9.length : Int)))) then (bif ((decide (0 ≤ t6)) && ((decide (t6 ≤ (t9.getD (t11).toNat (0, 0, ([] : List ByteArray))).1)) && (decide ((t9.getD (t11).toNat (0, 0, ([] : List ByteArray))).1 ≤ (l.length : Int))))) then (bif (decide ((out.length + ((l.take ((t9.getD (t11).toNat (0, 0, ([] : List ByteArray))).1).toNat).drop (t6).toNat).length) ≤ room 16)) then (bif (decide (((out ++ ((l.take ((t9.getD (t11).toNat (0, 0, ([] : List ByteArray))).1).toNat).drop (t6).toNat)).length + (t9.getD (t11).toNat (0, 0, ([] : List ByteArray))).2.2.length) ≤ room 16)) then (spec_l2Patch.l8 l ((out ++ ((l.take ((t9.getD (t11).toNat (0, 0, ([] : List ByteArray))).1).toNat).drop (t6).toNat)) ++ (t9.getD (t11).toNat (0, 0, ([] : List ByteArray))).2.2) (w64 ((t9.getD (t11).toNat (0, 0, ([] : List ByteArray))).1 + (t9.getD (t11).toNat (0, 0, ([] : List ByteArray))).2.1)) t9 t10 (w64 (t11 + 1))) else none) else none) else none) else none) else
  (bif ((decide (0 ≤ t6)) && (decide (t6 ≤ (l.length : Int)))) then (bif (decide ((out.length + (l.drop (t6).toNat).length) ≤ room 16)) then (some (out ++ (l.drop (t6).toNat))) else none) else none)) :=
  (fixP_eq spec_l2Patch.E spec_l2Patch.T spec_l2Patch.C spec_l2Patch.K 8 spec_l2Patch.D8 (l, out, t6, t9, t10, t11)).trans (by kernel_rfl)
theorem spec_l2Patch.f_eq (l : List ByteArray) (h : List (Int × Int × List ByteArray)) : spec_l2Patch.f l h =
  (spec_l2Patch.l8 l ([] : List ByteArray) 0 h (h.length : Int) 0) := by kernel_rfl
noncomputable def spec_l2Patch.S : Abs.Sum := ⟨spec_l2Patch.P, spec_l2Patch.R, fun _ => Fn spec_l2Patch.E spec_l2Patch.T spec_l2Patch.C spec_l2Patch.P spec_l2Patch.R spec_l2Patch.X⟩
theorem spec_l2Patch.meets : Meets Tryz.prog 89 spec_l2Patch.S := meets_tab (S := spec_l2Patch.U) tabOk_all AllMeets.nil AllStill.nil follows (by kernel_rfl : Tryz.prog.funcs[89]? = some Tryz.f89) (by kernel_rfl) (by kernel_rfl) (by kernel_rfl)
noncomputable def spec_Patch.C : Code := Tryz.f79.body.getD .skip
def spec_Patch.P : Par := (.cons (.val (.list .str)) (.cons (.val (.list (.pair (.int .i64) (.pair (.int .i64) (.one (.list .str)))))) .nil))
noncomputable def spec_Patch.U : SumTab := [(88, [], spec_l2Asked.S), (89, [], spec_l2Patch.S), (24, [], spec_l1Good.S)]
noncomputable def spec_Patch.E : Env := mkEnv TY AR spec_Patch.U
noncomputable def spec_Patch.T : Tab := fun k => look k []
def spec_Patch.R : List (Nat × Ty) := [(9, .list .str), (0, .bool)]
def spec_Patch.X : List ResultVar := [.tmp 4, .tmp 5]
noncomputable def spec_Patch.f (l : List ByteArray) (h : List (Int × Int × List ByteArray)) : Option ((List ByteArray) × Bool) := Fn spec_Patch.E spec_Patch.T spec_Patch.C spec_Patch.P spec_Patch.R spec_Patch.X (l, h)
theorem spec_Patch.f_eq (l : List ByteArray) (h : List (Int × Int × List ByteArray)) : spec_Patch.f l h =
  ((spec_l2Asked.f l h).bind fun y1 =>
  bif (!y1) then (some (([] : List ByteArray), false)) else
  ((spec_l2Patch.f l h).bind fun y2 =>
   (spec_l1Good.f y2).bind fun y3 =>
   bif (!y3) then (some (([] : List ByteArray), false)) else (some (y2, true)))) := by kernel_rfl
noncomputable def spec_Patch.S : Abs.Sum := ⟨spec_Patch.P, spec_Patch.R, fun _ => Fn spec_Patch.E spec_Patch.T spec_Patch.C spec_Patch.P spec_Patch.R spec_Patch.X⟩
theorem spec_Patch.meets : Meets Tryz.prog 79 spec_Patch.S := meets_tab (S := spec_Patch.U) tabOk_all (AllMeets.cons spec_l2Asked.meets (AllMeets.cons spec_l2Patch.meets (AllMeets.cons spec_l1Good.meets AllMeets.nil))) (AllStill.cons (fun _ _ _ => rfl) (AllStill.cons (fun _ _ _ => rfl) (AllStill.cons (fun _ _ _ => rfl) AllStill.nil))) follows (by kernel_rfl : Tryz.prog.funcs[79]? = some Tryz.f79) (by kernel_rfl) (by kernel_rfl) (by kernel_rfl)
noncomputable def spec_l1Most.C : Code := Tryz.f95.body.getD .skip
def spec_l1Most.P : Par := (.cons (.val (.int .i64)) (.cons (.val (.int .i64)) .nil))
noncomputable def spec_l1Most.U : SumTab := []
noncomputable def spec_l1Most.E : Env := mkEnv TY AR spec_l1Most.U
noncomputable def spec_l1Most.T : Tab := fun k => look k []
def spec_l1Most.R : List (Nat × Ty) := [(0, .int .i64)]
def spec_l1Most.X : List ResultVar := [.tmp 4]
noncomputable def spec_l1Most.f (a : Int) (b : Int) : Option (Int) := Fn spec_l1Most.E spec_l1Most.T spec_l1Most.C spec_l1Most.P spec_l1Most.R spec_l1Most.X (a, b)
theorem spec_l1Most.f_eq (a : Int) (b : Int) : spec_l1Most.f a b =
  (bif (decide (a > b)) then (some a) else (some b)) := by kernel_rfl
noncomputable def spec_l1Most.S : Abs.Sum := ⟨spec_l1Most.P, spec_l1Most.R, fun _ => Fn spec_l1Most.E spec_l1Most.T spec_l1Most.C spec_l1Most.P spec_l1Most.R spec_l1Most.X⟩
theorem spec_l1Most.meets : Meets Tryz.prog 95 spec_l1Most.S := meets_tab (S := spec_l1Most.U) tabOk_all AllMeets.nil AllStill.nil follows (by kernel_rfl : Tryz.prog.funcs[95]? = some Tryz.f95) (by kernel_rfl) (by kernel_rfl) (by kernel_rfl)
noncomputable def spec_l6Rows.C : Code := Tryz.f96.body.getD .skip
def spec_l6Rows.P : Par := (.cons (.val (.int .i64)) (.cons (.val (.list .str)) .nil))
noncomputable def spec_l6Rows.U : SumTab := []
noncomputable def spec_l6Rows.E : Env := mkEnv TY AR spec_l6Rows.U
def spec_l6Rows.D6 : CutD := ⟨[0, 5, 8, 9, 10], (.cons (.val (.int .i64)) (.cons (.own 9 (.pair (.int .i64) (.one .str))) (.cons (.val (.list .str)) (.cons (.val (.int .i64)) (.cons (.val (.int .i64)) .nil)))))⟩
noncomputable def spec_l6Rows.T : Tab := fun k => look k [(6, spec_l6Rows.D6)]
def spec_l6Rows.R : List (Nat × Ty) := [(9, .list (.pair (.int .i64) (.one .str)))]
def spec_l6Rows.X : List ResultVar := [.tmp 4]
noncomputable def spec_l6Rows.K := fin spec_l6Rows.E ⟨spec_l6Rows.P, spec_l6Rows.R, fun _ _ => none⟩ spec_l6Rows.X spec_l6Rows.P.len 0
noncomputable def spec_l6Rows.l6 (kind : Int) (out : List (Int × ByteArray)) (t8 : List ByteArray) (t9 : Int) (t10 : Int) : Option ((List (Int × ByteArray))) := fixP spec_l6Rows.E spec_l6Rows.T spec_l6Rows.C spec_l6Rows.K 6 spec_l6Rows.D6 (kind, out, t8, t9, t10)
noncomputable def spec_l6Rows.f (kind : Int) (l : List ByteArray) : Option ((List (Int × ByteArray))) := Fn spec_l6Rows.E spec_l6Rows.T spec_l6Rows.C spec_l6Rows.P spec_l6Rows.R spec_l6Rows.X (kind, l)
theorem spec_l6Rows.l6_eq (kind : Int) (out : List (Int × ByteArray)) (t8 : List ByteArray) (t9 : Int) (t10 : Int) : spec_l6Rows.l6 kind out t8 t9 t10 =
  (bif (decide (t10 < t9)) then (bif ((decide (0 ≤ t10)) && (decide (t10 < (t8.length : Int)))) then (bif (decide ((out.length + [(kind, (t8.getD (t10).toNat em))].length) ≤ room 24)) then (spec_l6Rows.l6 kind (out ++ [(kind, (t8.getD (t10).toNat em))]) t8 t9 (w64 (t10 + 1))) else none) else none) else (some out)) :=
  (fixP_eq spec_l6Rows.E spec_l6Rows.T spec_l6Rows.C spec_l6Rows.K 6 spec_l6Rows.D6 (kind, out, t8, t9, t10)).trans (by kernel_rfl)
theorem spec_l6Rows.f_eq (kind : Int) (l : List ByteArray) : spec_l6Rows.f kind l =
  (spec_l6Rows.l6 kind ([] : List (Int × ByteArray)) l (l.length : Int) 0) := by kernel_rfl
noncomputable def spec_l6Rows.S : Abs.Sum := ⟨spec_l6Rows.P, spec_l6Rows.R, fun _ => Fn spec_l6Rows.E spec_l6Rows.T spec_l6Rows.C spec_l6Rows.P spec_l6Rows.R spec_l6Rows.X⟩
theorem spec_l6Rows.meets : Meets Tryz.prog 96 spec_l6Rows.S := meets_tab (S := spec_l6Rows.U) tabOk_all AllMeets.nil AllStill.nil follows (by kernel_rfl : Tryz.prog.funcs[96]? = some Tryz.f96) (by kernel_rfl) (by kernel_rfl) (by kernel_rfl)
noncomputable def spec_l6One.C : Code := Tryz.f90.body.getD .skip
def spec_l6One.P : Par := (.cons (.val (.list .str)) (.cons (.val (.list (.pair (.int .i64) (.pair (.int .i64) (.one (.list .str)))))) (.cons (.val (.int .i64)) (.cons (.val (.int .i64)) .nil))))
noncomputable def spec_l6One.U : SumTab := [(95, [], spec_l1Most.S), (96, [], spec_l6Rows.S), (50, [], spec_l1Least.S)]
noncomputable def spec_l6One.E : Env := mkEnv TY AR spec_l6One.U
def spec_l6One.D12 : CutD := ⟨[0, 2, 8, 10, 11, 12, 35, 36, 37], (.cons (.val (.list .str)) (.cons (.val (.int .i64)) (.cons (.box 9 (.pair (.int .i64) (.pair (.int .i64) (.one (.list (.pair (.int .i64) (.one .str))))))) (.cons (.box 0 (.pair (.int .i64) (.pair (.int .i64) (.one (.list .str))))) (.cons (.box 9 (.pair (.int .i64) (.pair (.int .i64) (.one (.list (.pair (.int .i64) (.one .str))))))) (.cons (.val (.int .i64)) (.cons (.val (.list (.pair (.int .i64) (.pair (.int .i64) (.one (.list .str)))))) (.cons (.val (.int .i64)) (.cons (.val (.int .i64)) .nil)))))))))⟩
noncomputable def spec_l6One.T : Tab := fun k => look k [(12, spec_l6One.D12)]
def spec_l6One.R : List (Nat × Ty) := [(9, .pair (.int .i64) (.pair (.int .i64) (.one (.list (.pair (.int .i64) (.one .str))))))]
def spec_l6One.X : List ResultVar := [.cell 8 37]
noncomputable def spec_l6One.K := fin spec_l6One.E ⟨spec_l6One.P, spec_l6One.R, fun _ _ => none⟩ spec_l6One.X spec_l6One.P.len 0
noncomputable def spec_l6One.l12 (l : List ByteArray) (width : Int) (t8 : Int × Int × List (Int × ByteArray)) (last : Int × Int × List ByteArray) (g : Int × Int × List (Int × ByteArray)) (t12 : Int) (t35 : List (Int × Int × List ByteArray)) (t36 : Int) (t37 : Int) : Option ((Int × Int × List (Int × ByteArray))) := fixP spec_l6One.E spec_l6One.T spec_l6One.C spec_l6One.K 12 spec_l6One.D12 (l, width, t8, last, g, t12, t35, t36, t37)
noncomputable def spec_l6One.f (l : List ByteArray) (h : List (Int × Int × List ByteArray)) (width : Int) (more : Int) : Option ((Int × Int × List (Int × ByteArray))) := Fn spec_l6One.E spec_l6One.T spec_l6One.C spec_l6One.P spec_l6One.R spec_l6One.X (l, h, width, more)
theorem spec_l6One.l12_eq (l : List ByteArray) (width : Int) (t8 : Int × Int × List (Int × ByteArray)) (last : Int × Int × List ByteArray) (g : Int × Int × List (Int × ByteArray)) (t12 : Int) (t35 : List (Int × Int × List ByteArray)) (t36 : Int) (t37 : Int) : spec_l6One.l12 l width t8 last g t12 t35 t36 t37 =
  (bif (decide (t37 < t36)) then (bif ((decide (0 ≤ t37)) && (decide (t37 < (t35.length : Int)))) then (bif ((decide (0 ≤ t12)) && ((decide (t12 ≤ (t35.getD (t37).toNat (0, 0, ([] : List ByteArray))).1)) && (decide ((t35.getD (t37).toNat (0, 0, ([] : List ByteArray))).1 ≤ (l.length : Int))))) then ((spec_l6Rows.f 1 ((l.take ((t35.getD (t37).toNat (0, 0, ([] : List ByteArray))).1).toNat).drop (t12).toNat)).bind fun y1 =>
     bif (decide ((g.2.2.length + y1.length) ≤ room 24)) then (bif ((decide (0 ≤ (t35.getD (t37).toNat (0, 0, ([] : List ByteArray))).1)) && ((decide ((t35.getD (t37).toNat (0, 0, ([] : List ByteArray))).1 ≤ (w64 ((t35.getD (t37).toNat (0, 0, ([] : List ByteArray))).1 + (t35.getD (t37).toNat (0, 0, ([] : List ByteArray))).2.1)))) && (decide ((w64 ((t35.getD (t37).toNat (0, 0, ([] : List ByteArray))).1 + (t35.getD (t37).toNat (0, 0, ([] : List ByteArray))).2.1)) ≤ (l.length : Int))))) then ((spec_l6Rows.f 2 ((l.take ((w64 ((t35.getD (t37).toNat (0, 0, ([] : List ByteArray))).1 + (t35.getD (t37).toNat (0, 0, ([] : List ByteArray))).2.1))).toNat).drop ((t35.getD (t37).toNat (0, 0, ([] : List ByteArray))).1).toNat)).bind fun y2 =>
       bif (decide (((g.2.2 ++ y1).length + y2.length) ≤ room 24)) then ((spec_l6Rows.f 3 (t35.getD (t37).toNat (0, 0, ([] : List ByteArray))).2.2).bind fun y3 =>
        bif (decide ((((g.2.2 ++ y1) ++ y2).length + y3.length) ≤ room 24)) then (spec_l6One.l12 l width (t8.1, t8.2.1, t8.2.2) last (g.1, g.2.1, (((g.2.2 ++ y1) ++ y2) ++ y3)) (w64 ((t35.getD (t37).toNat (0, 0, ([] : List ByteArray))).1 + (t35.getD (t37).toNat (0, 0, ([] : List ByteArray))).2.1)) t35 t36 (w64 (t37 + 1))) else none) else none) else none) else none) else none) else none) else
  ((spec_l1Least.f (l.length : Int) (w64 ((w64 (last.1 + last.2.1)) + width))).bind fun y1 =>
   bif ((decide (0 ≤ t12)) && ((decide (t12 ≤ y1)) && (decide (y1 ≤ (l.length : Int))))) then ((spec_l6Rows.f 1 ((l.take (y1).toNat).drop (t12).toNat)).bind fun y2 =>
    bif (decide ((g.2.2.length + y2.length) ≤ room 24)) then (some (g.1, g.2.1, (g.2.2 ++ y2))) else none) else none)) :=
  (fixP_eq spec_l6One.E spec_l6One.T spec_l6One.C spec_l6One.K 12 spec_l6One.D12 (l, width, t8, last, g, t12, t35, t36, t37)).trans (by kernel_rfl)
theorem spec_l6One.f_eq (l : List ByteArray) (h : List (Int × Int × List ByteArray)) (width : Int) (more : Int) : spec_l6One.f l h width more =
  (bif (decide (0 < (h.length : Int))) then ((spec_l1Most.f 0 (w64 ((h.getD 0 (0, 0, ([] : List ByteArray))).1 - width))).bind fun y1 =>
   bif ((decide (0 ≤ (w64 ((h.length : Int) - 1)))) && (decide ((w64 ((h.length : Int) - 1)) < (h.length : Int)))) then (spec_l6One.l12 l width (0, 0, ([] : List (Int × ByteArray))) (h.getD ((w64 ((h.length : Int) - 1))).toNat (0, 0, ([] : List ByteArray))) (y1, (w64 (y1 + more)), ([] : List (Int × ByteArray))) y1 h (h.length : Int) 0) else none) else none) := by kernel_rfl
noncomputable def spec_l6One.S : Abs.Sum := ⟨spec_l6One.P, spec_l6One.R, fun _ => Fn spec_l6One.E spec_l6One.T spec_l6One.C spec_l6One.P spec_l6One.R spec_l6One.X⟩
theorem spec_l6One.meets : Meets Tryz.prog 90 spec_l6One.S := meets_tab (S := spec_l6One.U) tabOk_all (AllMeets.cons spec_l1Most.meets (AllMeets.cons spec_l6Rows.meets (AllMeets.cons spec_l1Least.meets AllMeets.nil))) (AllStill.cons (fun _ _ _ => rfl) (AllStill.cons (fun _ _ _ => rfl) (AllStill.cons (fun _ _ _ => rfl) AllStill.nil))) follows (by kernel_rfl : Tryz.prog.funcs[90]? = some Tryz.f90) (by kernel_rfl) (by kernel_rfl) (by kernel_rfl)
noncomputable def spec_l6Groups.C : Code := Tryz.f80.body.getD .skip
def spec_l6Groups.P : Par := (.cons (.val (.list .str)) (.cons (.val (.list (.pair (.int .i64) (.pair (.int .i64) (.one (.list .str)))))) (.cons (.val (.int .i64)) .nil)))
noncomputable def spec_l6Groups.U : SumTab := [(90, [], spec_l6One.S)]
noncomputable def spec_l6Groups.E : Env := mkEnv TY AR spec_l6Groups.U
def spec_l6Groups.D8 : CutD := ⟨[0, 1, 2, 7, 8, 9], (.cons (.val (.list .str)) (.cons (.val (.list (.pair (.int .i64) (.pair (.int .i64) (.one (.list .str)))))) (.cons (.val (.int .i64)) (.cons (.own 9 (.pair (.int .i64) (.pair (.int .i64) (.one (.list (.pair (.int .i64) (.one .str))))))) (.cons (.val (.int .i64)) (.cons (.val (.int .i64)) .nil))))))⟩
def spec_l6Groups.D12 : CutD := ⟨[0, 1, 2, 7, 8, 9, 10], (.cons (.val (.list .str)) (.cons (.val (.list (.pair (.int .i64) (.pair (.int .i64) (.one (.list .str)))))) (.cons (.val (.int .i64)) (.cons (.own 9 (.pair (.int .i64) (.pair (.int .i64) (.one (.list (.pair (.int .i64) (.one .str))))))) (.cons (.val (.int .i64)) (.cons (.val (.int .i64)) (.cons (.val (.int .i64)) .nil)))))))⟩
def spec_l6Groups.D17 : CutD := ⟨[0, 1, 2, 7, 8, 9, 10], (.cons (.val (.list .str)) (.cons (.val (.list (.pair (.int .i64) (.pair (.int .i64) (.one (.list .str)))))) (.cons (.val (.int .i64)) (.cons (.own 9 (.pair (.int .i64) (.pair (.int .i64) (.one (.list (.pair (.int .i64) (.one .str))))))) (.cons (.val (.int .i64)) (.cons (.val (.int .i64)) (.cons (.val (.int .i64)) .nil)))))))⟩
def spec_l6Groups.D20 : CutD := ⟨[0, 1, 2, 7, 8, 10, 63, 64, 65], (.cons (.val (.list .str)) (.cons (.val (.list (.pair (.int .i64) (.pair (.int .i64) (.one (.list .str)))))) (.cons (.val (.int .i64)) (.cons (.own 9 (.pair (.int .i64) (.pair (.int .i64) (.one (.list (.pair (.int .i64) (.one .str))))))) (.cons (.val (.int .i64)) (.cons (.val (.int .i64)) (.cons (.val (.list (.pair (.int .i64) (.pair (.int .i64) (.one (.list .str)))))) (.cons (.val (.int .i64)) (.cons (.val (.int .i64)) .nil)))))))))⟩
noncomputable def spec_l6Groups.T : Tab := fun k => look k [(8, spec_l6Groups.D8), (12, spec_l6Groups.D12), (17, spec_l6Groups.D17), (20, spec_l6Groups.D20)]
def spec_l6Groups.R : List (Nat × Ty) := [(9, .list (.pair (.int .i64) (.pair (.int .i64) (.one (.list (.pair (.int .i64) (.one .str)))))))]
def spec_l6Groups.X : List ResultVar := [.tmp 6]
noncomputable def spec_l6Groups.K := fin spec_l6Groups.E ⟨spec_l6Groups.P, spec_l6Groups.R, fun _ _ => none⟩ spec_l6Groups.X spec_l6Groups.P.len 0
noncomputable def spec_l6Groups.l8 (l : List ByteArray) (h : List (Int × Int × List ByteArray)) (width : Int) (out : List (Int × Int × List (Int × ByteArray))) (more : Int) (i : Int) : Option ((List (Int × Int × List (Int × ByteArray)))) := fixP spec_l6Groups.E spec_l6Groups.T spec_l6Groups.C spec_l6Groups.K 8 spec_l6Groups.D8 (l, h, width, out, more, i)
noncomputable def spec_l6Groups.l12 (l : List ByteArray) (h : List (Int × Int × List ByteArray)) (width : Int) (out : List (Int × Int × List (Int × ByteArray))) (more : Int) (i : Int) (j : Int) : Option ((List (Int × Int × List (Int × ByteArray)))) := fixP spec_l6Groups.E spec_l6Groups.T spec_l6Groups.C spec_l6Groups.K 12 spec_l6Groups.D12 (l, h, width, out, more, i, j)
noncomputable def spec_l6Groups.l17 (l : List ByteArray) (h : List (Int × Int × List ByteArray)) (width : Int) (out : List (Int × Int × List (Int × ByteArray))) (more : Int) (i : Int) (j : Int) : Option ((List (Int × Int × List (Int × ByteArray)))) := fixP spec_l6Groups.E spec_l6Groups.T spec_l6Groups.C spec_l6Groups.K 17 spec_l6Groups.D17 (l, h, width, out, more, i, j)
noncomputable def spec_l6Groups.l20 (l : List ByteArray) (h : List (Int × Int × List ByteArray)) (width : Int) (out : List (Int × Int × List (Int × ByteArray))) (more : Int) (j : Int) (t63 : List (Int × Int × List ByteArray)) (t64 : Int) (t65 : Int) : Option ((List (Int × Int × List (Int × ByteArray)))) := fixP spec_l6Groups.E spec_l6Groups.T spec_l6Groups.C spec_l6Groups.K 20 spec_l6Groups.D20 (l, h, width, out, more, j, t63, t64, t65)
noncomputable def spec_l6Groups.f (l : List ByteArray) (h : List (Int × Int × List ByteArray)) (width : Int) : Option ((List (Int × Int × List (Int × ByteArray)))) := Fn spec_l6Groups.E spec_l6Groups.T spec_l6Groups.C spec_l6Groups.P spec_l6Groups.R spec_l6Groups.X (l, h, width)
theorem spec_l6Groups.l8_eq (l : List ByteArray) (h : List (Int × Int × List ByteArray)) (width : Int) (out : List (Int × Int × List (Int × ByteArray))) (more : Int) (i : Int) : spec_l6Groups.l8 l h width out more i =
  (bif (decide (i < (h.length : Int))) then (spec_l6Groups.l12 l h width out more i (w64 (i + 1))) else (some out)) :=
  (fixP_eq spec_l6Groups.E spec_l6Groups.T spec_l6Groups.C spec_l6Groups.K 8 spec_l6Groups.D8 (l, h, width, out, more, i)).trans (by kernel_rfl)
theorem spec_l6Groups.l12_eq (l : List ByteArray) (h : List (Int × Int × List ByteArray)) (width : Int) (out : List (Int × Int × List (Int × ByteArray))) (more : Int) (i : Int) (j : Int) : spec_l6Groups.l12 l h width out more i j =
  (bif (decide (j < (h.length : Int))) then (bif ((decide (0 ≤ j)) && (decide (j < (h.length : Int)))) then (bif ((decide (0 ≤ (w64 (j - 1)))) && (decide ((w64 (j - 1)) < (h.length : Int)))) then (bif ((decide (0 ≤ (w64 (j - 1)))) && (decide ((w64 (j - 1)) < (h.length : Int)))) then (bif (decide ((w64 ((h.getD (j).toNat (0, 0, ([] : List ByteArray))).1 - (w64 ((h.getD ((w64 (j - 1))).toNat (0, 0, ([] : List ByteArray))).1 + (h.getD ((w64 (j - 1))).toNat (0, 0, ([] : List ByteArray))).2.1)))) ≤ (w64 (2 * width)))) then (spec_l6Groups.l12 l h width out more i (w64 (j + 1))) else
      (spec_l6Groups.l17 l h width out more i j)) else none) else none) else none) else
  (spec_l6Groups.l17 l h width out more i j)) :=
  (fixP_eq spec_l6Groups.E spec_l6Groups.T spec_l6Groups.C spec_l6Groups.K 12 spec_l6Groups.D12 (l, h, width, out, more, i, j)).trans (by kernel_rfl)
theorem spec_l6Groups.l17_eq (l : List ByteArray) (h : List (Int × Int × List ByteArray)) (width : Int) (out : List (Int × Int × List (Int × ByteArray))) (more : Int) (i : Int) (j : Int) : spec_l6Groups.l17 l h width out more i j =
  (bif ((decide (0 ≤ i)) && ((decide (i ≤ j)) && (decide (j ≤ (h.length : Int))))) then ((spec_l6One.f l ((h.take (j).toNat).drop (i).toNat) width more).bind fun y1 =>
   bif (decide ((out.length + [(y1.1, y1.2.1, y1.2.2)].length) ≤ room 40)) then (bif ((decide (0 ≤ i)) && ((decide (i ≤ j)) && (decide (j ≤ (h.length : Int))))) then (spec_l6Groups.l20 l h width (out ++ [(y1.1, y1.2.1, y1.2.2)]) more j ((h.take (j).toNat).drop (i).toNat) (((h.take (j).toNat).drop (i).toNat).length : Int) 0) else none) else none) else none) :=
  (fixP_eq spec_l6Groups.E spec_l6Groups.T spec_l6Groups.C spec_l6Groups.K 17 spec_l6Groups.D17 (l, h, width, out, more, i, j)).trans (by kernel_rfl)
theorem spec_l6Groups.l20_eq (l : List ByteArray) (h : List (Int × Int × List ByteArray)) (width : Int) (out : List (Int × Int × List (Int × ByteArray))) (more : Int) (j : Int) (t63 : List (Int × Int × List ByteArray)) (t64 : Int) (t65 : Int) : spec_l6Groups.l20 l h width out more j t63 t64 t65 =
  (bif (decide (t65 < t64)) then (bif ((decide (0 ≤ t65)) && (decide (t65 < (t63.length : Int)))) then (spec_l6Groups.l20 l h width out (w64 (more + (w64 (((t63.getD (t65).toNat (0, 0, ([] : List ByteArray))).2.2.length : Int) - (t63.getD (t65).toNat (0, 0, ([] : List ByteArray))).2.1)))) j t63 t64 (w64 (t65 + 1))) else none) else
  (spec_l6Groups.l8 l h width out more j)) :=
  (fixP_eq spec_l6Groups.E spec_l6Groups.T spec_l6Groups.C spec_l6Groups.K 20 spec_l6Groups.D20 (l, h, width, out, more, j, t63, t64, t65)).trans (by kernel_rfl)
theorem spec_l6Groups.f_eq (l : List ByteArray) (h : List (Int × Int × List ByteArray)) (width : Int) : spec_l6Groups.f l h width =
  (spec_l6Groups.l8 l h width ([] : List (Int × Int × List (Int × ByteArray))) 0 0) := by kernel_rfl
noncomputable def spec_l6Groups.S : Abs.Sum := ⟨spec_l6Groups.P, spec_l6Groups.R, fun _ => Fn spec_l6Groups.E spec_l6Groups.T spec_l6Groups.C spec_l6Groups.P spec_l6Groups.R spec_l6Groups.X⟩
theorem spec_l6Groups.meets : Meets Tryz.prog 80 spec_l6Groups.S := meets_tab (S := spec_l6Groups.U) tabOk_all (AllMeets.cons spec_l6One.meets AllMeets.nil) (AllStill.cons (fun _ _ _ => rfl) AllStill.nil) follows (by kernel_rfl : Tryz.prog.funcs[80]? = some Tryz.f80) (by kernel_rfl) (by kernel_rfl) (by kernel_rfl)
noncomputable def spec_GroupsOf.C : Code := Tryz.f53.body.getD .skip
def spec_GroupsOf.P : Par := (.cons (.val (.list .str)) (.cons (.val (.list (.pair (.int .i64) (.pair (.int .i64) (.one (.list .str)))))) (.cons (.val (.int .i64)) .nil)))
noncomputable def spec_GroupsOf.U : SumTab := [(79, [], spec_Patch.S), (35, [], spec_l1In.S), (80, [], spec_l6Groups.S)]
noncomputable def spec_GroupsOf.E : Env := mkEnv TY AR spec_GroupsOf.U
noncomputable def spec_GroupsOf.T : Tab := fun k => look k []
def spec_GroupsOf.R : List (Nat × Ty) := [(9, .list (.pair (.int .i64) (.pair (.int .i64) (.one (.list (.pair (.int .i64) (.one .str))))))), (0, .bool)]
def spec_GroupsOf.X : List ResultVar := [.tmp 6, .tmp 7]
noncomputable def spec_GroupsOf.f (l : List ByteArray) (h : List (Int × Int × List ByteArray)) (width : Int) : Option ((List (Int × Int × List (Int × ByteArray))) × Bool) := Fn spec_GroupsOf.E spec_GroupsOf.T spec_GroupsOf.C spec_GroupsOf.P spec_GroupsOf.R spec_GroupsOf.X (l, h, width)
theorem spec_GroupsOf.f_eq (l : List ByteArray) (h : List (Int × Int × List ByteArray)) (width : Int) : spec_GroupsOf.f l h width =
  ((spec_Patch.f l h).bind fun y1 =>
  bif (!y1.2) then (some (([] : List (Int × Int × List (Int × ByteArray))), false)) else
  ((spec_l1In.f width 0 20).bind fun y2 =>
   bif (!y2) then (some (([] : List (Int × Int × List (Int × ByteArray))), false)) else
   ((spec_l6Groups.f l h width).bind fun y3 =>
    some (y3, true)))) := by kernel_rfl
noncomputable def spec_GroupsOf.S : Abs.Sum := ⟨spec_GroupsOf.P, spec_GroupsOf.R, fun _ => Fn spec_GroupsOf.E spec_GroupsOf.T spec_GroupsOf.C spec_GroupsOf.P spec_GroupsOf.R spec_GroupsOf.X⟩
theorem spec_GroupsOf.meets : Meets Tryz.prog 53 spec_GroupsOf.S := meets_tab (S := spec_GroupsOf.U) tabOk_all (AllMeets.cons spec_Patch.meets (AllMeets.cons spec_l1In.meets (AllMeets.cons spec_l6Groups.meets AllMeets.nil))) (AllStill.cons (fun _ _ _ => rfl) (AllStill.cons (fun _ _ _ => rfl) (AllStill.cons (fun _ _ _ => rfl) AllStill.nil))) follows (by kernel_rfl : Tryz.prog.funcs[53]? = some Tryz.f53) (by kernel_rfl) (by kernel_rfl) (by kernel_rfl)
noncomputable def spec_l1OwnT.C : Code := Tryz.f36.body.getD .skip
def spec_l1OwnT.P : Par := (.cons (.val (.list .str)) .nil)
noncomputable def spec_l1OwnT.U : SumTab := []
noncomputable def spec_l1OwnT.E : Env := mkEnv TY AR spec_l1OwnT.U
noncomputable def spec_l1OwnT.T : Tab := fun k => look k []
def spec_l1OwnT.R : List (Nat × Ty) := [(9, .list .str)]
def spec_l1OwnT.X : List ResultVar := [.tmp 2]
noncomputable def spec_l1OwnT.f (l : List ByteArray) : Option ((List ByteArray)) := Fn spec_l1OwnT.E spec_l1OwnT.T spec_l1OwnT.C spec_l1OwnT.P spec_l1OwnT.R spec_l1OwnT.X l
theorem spec_l1OwnT.f_eq (l : List ByteArray) : spec_l1OwnT.f l =
  (bif (decide ((([] : List ByteArray).length + l.length) ≤ room 16)) then (some (([] : List ByteArray) ++ l)) else none) := by kernel_rfl
noncomputable def spec_l1OwnT.S : Abs.Sum := ⟨spec_l1OwnT.P, spec_l1OwnT.R, fun _ => Fn spec_l1OwnT.E spec_l1OwnT.T spec_l1OwnT.C spec_l1OwnT.P spec_l1OwnT.R spec_l1OwnT.X⟩
theorem spec_l1OwnT.meets : Meets Tryz.prog 36 spec_l1OwnT.S := meets_tab (S := spec_l1OwnT.U) tabOk_all AllMeets.nil AllStill.nil follows (by kernel_rfl : Tryz.prog.funcs[36]? = some Tryz.f36) (by kernel_rfl) (by kernel_rfl) (by kernel_rfl)
noncomputable def spec_l1Plain.C : Code := Tryz.f82.body.getD .skip
def spec_l1Plain.P : Par := (.cons (.val .str) .nil)
noncomputable def spec_l1Plain.U : SumTab := [(57, [], spec_l1Ends.S)]
noncomputable def spec_l1Plain.E : Env := mkEnv TY AR spec_l1Plain.U
noncomputable def spec_l1Plain.T : Tab := fun k => look k []
def spec_l1Plain.R : List (Nat × Ty) := [(0, .str)]
def spec_l1Plain.X : List ResultVar := [.tmp 2]
noncomputable def spec_l1Plain.f (s : ByteArray) : Option (ByteArray) := Fn spec_l1Plain.E spec_l1Plain.T spec_l1Plain.C spec_l1Plain.P spec_l1Plain.R spec_l1Plain.X s
theorem spec_l1Plain.f_eq (s : ByteArray) : spec_l1Plain.f s =
  ((spec_l1Ends.f s).bind fun y1 =>
  bif y1 then (bif ((decide (0 ≤ (w64 ((s.size : Int) - 1)))) && (decide ((w64 ((s.size : Int) - 1)) ≤ (s.size : Int)))) then (some (s.extract 0 ((w64 ((s.size : Int) - 1))).toNat)) else none) else (some s)) := by kernel_rfl
noncomputable def spec_l1Plain.S : Abs.Sum := ⟨spec_l1Plain.P, spec_l1Plain.R, fun _ => Fn spec_l1Plain.E spec_l1Plain.T spec_l1Plain.C spec_l1Plain.P spec_l1Plain.R spec_l1Plain.X⟩
theorem spec_l1Plain.meets : Meets Tryz.prog 82 spec_l1Plain.S := meets_tab (S := spec_l1Plain.U) tabOk_all (AllMeets.cons spec_l1Ends.meets AllMeets.nil) (AllStill.cons (fun _ _ _ => rfl) AllStill.nil) follows (by kernel_rfl : Tryz.prog.funcs[82]? = some Tryz.f82) (by kernel_rfl) (by kernel_rfl) (by kernel_rfl)
noncomputable def spec_l1Cur_other.C : Code := Tryz.f56.body.getD .skip
def spec_l1Cur_other.P : Par := (.cons (.box 0 (.pair (.list (.int .u8)) (.pair (.int .i64) (.one (.int .u64))))) (.cons (.val (.list .str)) .nil))
noncomputable def spec_l1Cur_other.U : SumTab := [(36, [], spec_l1OwnT.S), (47, [], spec_l1Cur_pick.S), (57, [], spec_l1Ends.S), (78, [], spec_l1Cur_line.S), (81, [], spec_l1Whole.S), (23, [], spec_l1Cur_one.S), (82, [], spec_l1Plain.S)]
def spec_l1Cur_other.Z : List (Nat × List Nat) := [(8, [5]), (11, [5])]
noncomputable def spec_l1Cur_other.E : Env := mkEnvZ TY AR spec_l1Cur_other.U spec_l1Cur_other.Z
def spec_l1Cur_other.D6 : CutD := ⟨[0, 1, 5, 6], (.cons (.box 0 (.pair (.list (.int .u8)) (.pair (.int .i64) (.one (.int .u64))))) (.cons (.val (.list .str)) (.cons (.own 8 .str) (.cons (.val (.int .i64)) .nil))))⟩
def spec_l1Cur_other.D9 : CutD := ⟨[0, 1, 5, 6], (.cons (.box 0 (.pair (.list (.int .u8)) (.pair (.int .i64) (.one (.int .u64))))) (.cons (.val (.list .str)) (.cons (.own 8 .str) (.cons (.val (.int .i64)) .nil))))⟩
def spec_l1Cur_other.D43 : CutD := ⟨[0, 1, 5], (.cons (.box 0 (.pair (.list (.int .u8)) (.pair (.int .i64) (.one (.int .u64))))) (.cons (.val (.list .str)) (.cons (.own 8 .str) .nil)))⟩
noncomputable def spec_l1Cur_other.T : Tab := fun k => look k [(6, spec_l1Cur_other.D6), (9, spec_l1Cur_other.D9), (43, spec_l1Cur_other.D43)]
def spec_l1Cur_other.R : List (Nat × Ty) := [(9, .list .str)]
def spec_l1Cur_other.X : List ResultVar := [.tmp 4]
noncomputable def spec_l1Cur_other.K := fin spec_l1Cur_other.E ⟨spec_l1Cur_other.P, spec_l1Cur_other.R, fun _ _ => none⟩ spec_l1Cur_other.X spec_l1Cur_other.P.len 0
noncomputable def spec_l1Cur_other.l6 (c : (List Int) × Int × Int) (a : List ByteArray) (b : List ByteArray) (n : Int) : Option ((List ByteArray) × ((List Int) × Int × Int)) := fixP spec_l1Cur_other.E spec_l1Cur_other.T spec_l1Cur_other.C spec_l1Cur_other.K 6 spec_l1Cur_other.D6 (c, a, b, n)
noncomputable def spec_l1Cur_other.l9 (c : (List Int) × Int × Int) (a : List ByteArray) (b : List ByteArray) (n : Int) : Option ((List ByteArray) × ((List Int) × Int × Int)) := fixP spec_l1Cur_other.E spec_l1Cur_other.T spec_l1Cur_other.C spec_l1Cur_other.K 9 spec_l1Cur_other.D9 (c, a, b, n)
noncomputable def spec_l1Cur_other.l43 (c : (List Int) × Int × Int) (a : List ByteArray) (b : List ByteArray) : Option ((List ByteArray) × ((List Int) × Int × Int)) := fixP spec_l1Cur_other.E spec_l1Cur_other.T spec_l1Cur_other.C spec_l1Cur_other.K 43 spec_l1Cur_other.D43 (c, a, b)
noncomputable def spec_l1Cur_other.f (c : (List Int) × Int × Int) (a : List ByteArray) : Option ((List ByteArray) × ((List Int) × Int × Int)) := Fn spec_l1Cur_other.E spec_l1Cur_other.T spec_l1Cur_other.C spec_l1Cur_other.P spec_l1Cur_other.R spec_l1Cur_other.X (c, a)
theorem spec_l1Cur_other.l6_eq (c : (List Int) × Int × Int) (a : List ByteArray) (b : List ByteArray) (n : Int) : spec_l1Cur_other.l6 c a b n =
  (bif (decide (n > 0)) then ((spec_l1Cur_pick.f c (w64 ((b.length : Int) + 1))).bind fun y1 =>
   (spec_l1Cur_pick.f y1.2 3).bind fun y2 =>
   bif (decide (y2.1 = 0)) then (bif (decide (y1.1 < (b.length : Int))) then (bif ((decide (0 ≤ y1.1)) && (decide (y1.1 ≤ (b.length : Int)))) then ((spec_l1OwnT.f (b.take (y1.1).toNat)).bind fun y3 =>
      bif ((decide (0 ≤ (w64 (y1.1 + 1)))) && (decide ((w64 (y1.1 + 1)) ≤ (b.length : Int)))) then (bif (decide ((y3.length + (b.drop ((w64 (y1.1 + 1))).toNat).length) ≤ room 16)) then (spec_l1Cur_other.l9 y2.2 a (y3 ++ (b.drop ((w64 (y1.1 + 1))).toNat)) n) else none) else none) else none) else
    (spec_l1Cur_other.l9 y2.2 a b n)) else
   (bif (decide (y2.1 = 1)) then (bif (decide (y1.1 < (b.length : Int))) then (bif ((decide (0 ≤ y1.1)) && (decide (y1.1 < (b.length : Int)))) then ((spec_l1Ends.f (b.getD (y1.1).toNat em)).bind fun y3 =>
       bif y3 then ((spec_l1Cur_line.f y2.2).bind fun y4 =>
        bif (decide ((y4.1.size + (⟨#[10]⟩ : ByteArray).size) ≤ 9223372036854775807)) then (bif ((decide (0 ≤ y1.1)) && (decide (y1.1 < (b.length : Int)))) then (spec_l1Cur_other.l9 y4.2 a (b.set (y1.1).toNat (y4.1 ++ (⟨#[10]⟩ : ByteArray))) n) else none) else none) else
       (spec_l1Cur_other.l9 y2.2 a b n)) else none) else
     (spec_l1Cur_other.l9 y2.2 a b n)) else
    (bif (decide (y1.1 < (b.length : Int))) then (bif ((decide (0 ≤ y1.1)) && (decide (y1.1 ≤ (b.length : Int)))) then ((spec_l1OwnT.f (b.take (y1.1).toNat)).bind fun y3 =>
       (spec_l1Cur_line.f y2.2).bind fun y4 =>
       bif (decide ((y4.1.size + (⟨#[10]⟩ : ByteArray).size) ≤ 9223372036854775807)) then (bif (decide ((y3.length + [(y4.1 ++ (⟨#[10]⟩ : ByteArray))].length) ≤ room 16)) then (bif ((decide (0 ≤ y1.1)) && (decide (y1.1 ≤ (b.length : Int)))) then (bif (decide (((y3 ++ [(y4.1 ++ (⟨#[10]⟩ : ByteArray))]).length + (b.drop (y1.1).toNat).length) ≤ room 16)) then (spec_l1Cur_other.l9 y4.2 a ((y3 ++ [(y4.1 ++ (⟨#[10]⟩ : ByteArray))]) ++ (b.drop (y1.1).toNat)) n) else none) else none) else none) else none) else none) else
     ((spec_l1Whole.f b).bind fun y3 =>
      bif y3 then (bif ((decide (0 ≤ y1.1)) && (decide (y1.1 ≤ (b.length : Int)))) then ((spec_l1OwnT.f (b.take (y1.1).toNat)).bind fun y4 =>
        (spec_l1Cur_line.f y2.2).bind fun y5 =>
        bif (decide ((y5.1.size + (⟨#[10]⟩ : ByteArray).size) ≤ 9223372036854775807)) then (bif (decide ((y4.length + [(y5.1 ++ (⟨#[10]⟩ : ByteArray))].length) ≤ room 16)) then (bif ((decide (0 ≤ y1.1)) && (decide (y1.1 ≤ (b.length : Int)))) then (bif (decide (((y4 ++ [(y5.1 ++ (⟨#[10]⟩ : ByteArray))]).length + (b.drop (y1.1).toNat).length) ≤ room 16)) then (spec_l1Cur_other.l9 y5.2 a ((y4 ++ [(y5.1 ++ (⟨#[10]⟩ : ByteArray))]) ++ (b.drop (y1.1).toNat)) n) else none) else none) else none) else none) else none) else
      (spec_l1Cur_other.l9 y2.2 a b n))))) else
  (bif (decide ((b.length : Int) > 0)) then ((spec_l1Cur_one.f c 6).bind fun y1 =>
    bif y1.1 then (bif ((decide (0 ≤ (w64 ((b.length : Int) - 1)))) && (decide ((w64 ((b.length : Int) - 1)) < (b.length : Int)))) then ((spec_l1Plain.f (b.getD ((w64 ((b.length : Int) - 1))).toNat em)).bind fun y2 =>
      bif ((decide (0 ≤ (w64 ((b.length : Int) - 1)))) && (decide ((w64 ((b.length : Int) - 1)) < (b.length : Int)))) then ((spec_l1Ends.f (b.getD ((w64 ((b.length : Int) - 1))).toNat em)).bind fun y3 =>
       bif (!y3) then (bif (decide ((y2.size + (⟨#[10]⟩ : ByteArray).size) ≤ 9223372036854775807)) then (bif ((decide (0 ≤ (w64 ((b.length : Int) - 1)))) && (decide ((w64 ((b.length : Int) - 1)) < (b.length : Int)))) then (spec_l1Cur_other.l43 y1.2 a (b.set ((w64 ((b.length : Int) - 1))).toNat (y2 ++ (⟨#[10]⟩ : ByteArray)))) else none) else none) else
       (bif (!(y2.toList == em.toList)) then (bif ((decide (0 ≤ (w64 ((b.length : Int) - 1)))) && (decide ((w64 ((b.length : Int) - 1)) < (b.length : Int)))) then (spec_l1Cur_other.l43 y1.2 a (b.set ((w64 ((b.length : Int) - 1))).toNat y2)) else none) else
        (spec_l1Cur_other.l43 y1.2 a b))) else none) else none) else
    (spec_l1Cur_other.l43 y1.2 a b)) else
   (spec_l1Cur_other.l43 c a b))) :=
  (fixP_eq spec_l1Cur_other.E spec_l1Cur_other.T spec_l1Cur_other.C spec_l1Cur_other.K 6 spec_l1Cur_other.D6 (c, a, b, n)).trans (by kernel_rfl)
theorem spec_l1Cur_other.l9_eq (c : (List Int) × Int × Int) (a : List ByteArray) (b : List ByteArray) (n : Int) : spec_l1Cur_other.l9 c a b n =
  (spec_l1Cur_other.l6 c a b (w64 (n - 1))) :=
  (fixP_eq spec_l1Cur_other.E spec_l1Cur_other.T spec_l1Cur_other.C spec_l1Cur_other.K 9 spec_l1Cur_other.D9 (c, a, b, n)).trans (by kernel_rfl)
theorem spec_l1Cur_other.l43_eq (c : (List Int) × Int × Int) (a : List ByteArray) (b : List ByteArray) : spec_l1Cur_other.l43 c a b =
  (some (b, c)) :=
  (fixP_eq spec_l1Cur_other.E spec_l1Cur_other.T spec_l1Cur_other.C spec_l1Cur_other.K 43 spec_l1Cur_other.D43 (c, a, b)).trans (by kernel_rfl)
theorem spec_l1Cur_other.f_eq (c : (List Int) × Int × Int) (a : List ByteArray) : spec_l1Cur_other.f c a =
  ((spec_l1OwnT.f a).bind fun y1 =>
  (spec_l1Cur_pick.f c 4).bind fun y2 =>
  spec_l1Cur_other.l6 y2.2 a y1 y2.1) := by kernel_rfl
noncomputable def spec_l1Cur_other.S : Abs.Sum := ⟨spec_l1Cur_other.P, spec_l1Cur_other.R, fun _ => Fn spec_l1Cur_other.E spec_l1Cur_other.T spec_l1Cur_other.C spec_l1Cur_other.P spec_l1Cur_other.R spec_l1Cur_other.X⟩
theorem spec_l1Cur_other.meets : Meets Tryz.prog 56 spec_l1Cur_other.S := meets_tabZ spec_l1Cur_other.Z (S := spec_l1Cur_other.U) tabOk_all (AllMeets.cons spec_l1OwnT.meets (AllMeets.cons spec_l1Cur_pick.meets (AllMeets.cons spec_l1Ends.meets (AllMeets.cons spec_l1Cur_line.meets (AllMeets.cons spec_l1Whole.meets (AllMeets.cons spec_l1Cur_one.meets (AllMeets.cons spec_l1Plain.meets AllMeets.nil))))))) (AllStill.cons (fun _ _ _ => rfl) (AllStill.cons (fun _ _ _ => rfl) (AllStill.cons (fun _ _ _ => rfl) (AllStill.cons (fun _ _ _ => rfl) (AllStill.cons (fun _ _ _ => rfl) (AllStill.cons (fun _ _ _ => rfl) (AllStill.cons (fun _ _ _ => rfl) AllStill.nil))))))) follows (by kernel_rfl : Tryz.prog.funcs[56]? = some Tryz.f56) (by kernel_rfl) (by kernel_rfl) (by kernel_rfl)
noncomputable def spec_l1Cur_groups.C : Code := Tryz.f22.body.getD .skip
def spec_l1Cur_groups.P : Par := (.cons (.box 0 (.pair (.list (.int .u8)) (.pair (.int .i64) (.one (.int .u64))))) .nil)
noncomputable def spec_l1Cur_groups.U : SumTab := [(52, [], spec_l1Cur_text.S), (54, [], spec_l1Cur_hunks.S), (25, [], spec_l1Cur_among.S), (53, [], spec_GroupsOf.S), (47, [], spec_l1Cur_pick.S), (55, [], spec_l1Cur_of.S), (23, [], spec_l1Cur_one.S), (56, [], spec_l1Cur_other.S)]
def spec_l1Cur_groups.Z : List (Nat × List Nat) := [(2, [4]), (18, [4])]
noncomputable def spec_l1Cur_groups.E : Env := mkEnvZ TY AR spec_l1Cur_groups.U spec_l1Cur_groups.Z
def spec_l1Cur_groups.D35 : CutD := ⟨[0, 4, 5], (.cons (.box 0 (.pair (.list (.int .u8)) (.pair (.int .i64) (.one (.int .u64))))) (.cons (.val (.list .str)) (.cons (.own 8 (.pair (.int .i64) (.pair (.int .i64) (.one (.list (.pair (.int .i64) (.one .str))))))) .nil)))⟩
noncomputable def spec_l1Cur_groups.T : Tab := fun k => look k [(35, spec_l1Cur_groups.D35)]
def spec_l1Cur_groups.R : List (Nat × Ty) := [(0, .list .str), (9, .list (.pair (.int .i64) (.pair (.int .i64) (.one (.list (.pair (.int .i64) (.one .str)))))))]
def spec_l1Cur_groups.X : List ResultVar := [.tmp 2, .tmp 3]
noncomputable def spec_l1Cur_groups.K := fin spec_l1Cur_groups.E ⟨spec_l1Cur_groups.P, spec_l1Cur_groups.R, fun _ _ => none⟩ spec_l1Cur_groups.X spec_l1Cur_groups.P.len 0
noncomputable def spec_l1Cur_groups.l35 (c : (List Int) × Int × Int) (l : List ByteArray) (g : List (Int × Int × List (Int × ByteArray))) : Option ((List ByteArray) × (List (Int × Int × List (Int × ByteArray))) × ((List Int) × Int × Int)) := fixP spec_l1Cur_groups.E spec_l1Cur_groups.T spec_l1Cur_groups.C spec_l1Cur_groups.K 35 spec_l1Cur_groups.D35 (c, l, g)
noncomputable def spec_l1Cur_groups.f (c : (List Int) × Int × Int) : Option ((List ByteArray) × (List (Int × Int × List (Int × ByteArray))) × ((List Int) × Int × Int)) := Fn spec_l1Cur_groups.E spec_l1Cur_groups.T spec_l1Cur_groups.C spec_l1Cur_groups.P spec_l1Cur_groups.R spec_l1Cur_groups.X c
theorem spec_l1Cur_groups.l35_eq (c : (List Int) × Int × Int) (l : List ByteArray) (g : List (Int × Int × List (Int × ByteArray))) : spec_l1Cur_groups.l35 c l g =
  ((spec_l1Cur_one.f c 4).bind fun y13 =>
  bif y13.1 then ((spec_l1Cur_other.f y13.2 l).bind fun y14 =>
   some (y14.1, g, y14.2)) else (some (l, g, y13.2))) :=
  (fixP_eq spec_l1Cur_groups.E spec_l1Cur_groups.T spec_l1Cur_groups.C spec_l1Cur_groups.K 35 spec_l1Cur_groups.D35 (c, l, g)).trans (by kernel_rfl)
theorem spec_l1Cur_groups.f_eq (c : (List Int) × Int × Int) : spec_l1Cur_groups.f c =
  ((spec_l1Cur_text.f c).bind fun y13 =>
  (spec_l1Cur_hunks.f y13.2 y13.1).bind fun y14 =>
  (spec_l1Cur_among.f y14.2 [0, 1, 2, 3]).bind fun y15 =>
  (spec_GroupsOf.f y13.1 y14.1 y15.1).bind fun y16 =>
  bif (decide ((y16.1.length : Int) > 0)) then ((spec_l1Cur_pick.f y15.2 (y16.1.length : Int)).bind fun y17 =>
   bif ((decide (0 ≤ y17.1)) && (decide (y17.1 < (y16.1.length : Int)))) then ((spec_l1Cur_pick.f y17.2 ((y16.1.getD (y17.1).toNat (0, 0, ([] : List (Int × ByteArray)))).2.2.length : Int)).bind fun y18 =>
    (spec_l1Cur_pick.f y18.2 15).bind fun y19 =>
    bif (decide (y19.1 = 0)) then (bif ((decide (0 ≤ y17.1)) && (decide (y17.1 < (y16.1.length : Int)))) then (bif ((decide (0 ≤ y17.1)) && (decide (y17.1 < (y16.1.length : Int)))) then (spec_l1Cur_groups.l35 y19.2 y13.1 (y16.1.set (y17.1).toNat ((w64 ((y16.1.getD (y17.1).toNat (0, 0, ([] : List (Int × ByteArray)))).1 + 1)), (y16.1.getD (y17.1).toNat (0, 0, ([] : List (Int × ByteArray)))).2))) else none) else none) else
    (bif (decide (y19.1 = 1)) then (bif ((decide (0 ≤ y17.1)) && (decide (y17.1 < (y16.1.length : Int)))) then (bif ((decide (0 ≤ y17.1)) && (decide (y17.1 < (y16.1.length : Int)))) then (spec_l1Cur_groups.l35 y19.2 y13.1 (y16.1.set (y17.1).toNat ((y16.1.getD (y17.1).toNat (0, 0, ([] : List (Int × ByteArray)))).1, (w64 ((y16.1.getD (y17.1).toNat (0, 0, ([] : List (Int × ByteArray)))).2.1 + 1)), (y16.1.getD (y17.1).toNat (0, 0, ([] : List (Int × ByteArray)))).2.2))) else none) else none) else
     (bif (decide (y19.1 = 2)) then (bif ((decide (0 ≤ y17.1)) && (decide (y17.1 < (y16.1.length : Int)))) then ((spec_l1Cur_pick.f y19.2 5).bind fun y20 =>
        bif ((decide (0 ≤ y18.1)) && (decide (y18.1 < ((y16.1.getD (y17.1).toNat (0, 0, ([] : List (Int × ByteArray)))).2.2.length : Int)))) then (spec_l1Cur_groups.l35 y20.2 y13.1 (y16.1.set (y17.1).toNat ((y16.1.getD (y17.1).toNat (0, 0, ([] : List (Int × ByteArray)))).1, (y16.1.getD (y17.1).toNat (0, 0, ([] : List (Int × ByteArray)))).2.1, ((y16.1.getD (y17.1).toNat (0, 0, ([] : List (Int × ByteArray)))).2.2.set (y18.1).toNat (y20.1, ((y16.1.getD (y17.1).toNat (0, 0, ([] : List (Int × ByteArray)))).2.2.getD (y18.1).toNat (0, em)).2))))) else none) else none) else
      (bif (decide (y19.1 = 3)) then (bif ((decide (0 ≤ y17.1)) && (decide (y17.1 < (y16.1.length : Int)))) then ((spec_l1Cur_of.f y19.2 [em, (⟨#[122, 10]⟩ : ByteArray), (⟨#[122]⟩ : ByteArray)]).bind fun y20 =>
         bif ((decide (0 ≤ y18.1)) && (decide (y18.1 < ((y16.1.getD (y17.1).toNat (0, 0, ([] : List (Int × ByteArray)))).2.2.length : Int)))) then (spec_l1Cur_groups.l35 y20.2 y13.1 (y16.1.set (y17.1).toNat ((y16.1.getD (y17.1).toNat (0, 0, ([] : List (Int × ByteArray)))).1, (y16.1.getD (y17.1).toNat (0, 0, ([] : List (Int × ByteArray)))).2.1, ((y16.1.getD (y17.1).toNat (0, 0, ([] : List (Int × ByteArray)))).2.2.set (y18.1).toNat (((y16.1.getD (y17.1).toNat (0, 0, ([] : List (Int × ByteArray)))).2.2.getD (y18.1).toNat (0, em)).1, y20.1))))) else none) else none) else
       (bif (decide (y19.1 = 4)) then (bif ((decide (0 ≤ y17.1)) && (decide (y17.1 < (y16.1.length : Int)))) then (bif ((decide (0 ≤ y17.1)) && (decide (y17.1 < (y16.1.length : Int)))) then (spec_l1Cur_groups.l35 y19.2 y13.1 (y16.1.set (y17.1).toNat ((w64 ((y16.1.getD (y17.1).toNat (0, 0, ([] : List (Int × ByteArray)))).1 + 30)), (y16.1.getD (y17.1).toNat (0, 0, ([] : List (Int × ByteArray)))).2))) else none) else none) else
        (spec_l1Cur_groups.l35 y19.2 y13.1 y16.1)))))) else none) else
  (spec_l1Cur_groups.l35 y15.2 y13.1 y16.1)) := by kernel_rfl
noncomputable def spec_l1Cur_groups.S : Abs.Sum := ⟨spec_l1Cur_groups.P, spec_l1Cur_groups.R, fun _ => Fn spec_l1Cur_groups.E spec_l1Cur_groups.T spec_l1Cur_groups.C spec_l1Cur_groups.P spec_l1Cur_groups.R spec_l1Cur_groups.X⟩
theorem spec_l1Cur_groups.meets : Meets Tryz.prog 22 spec_l1Cur_groups.S := meets_tabZ spec_l1Cur_groups.Z (S := spec_l1Cur_groups.U) tabOk_all (AllMeets.cons spec_l1Cur_text.meets (AllMeets.cons spec_l1Cur_hunks.meets (AllMeets.cons spec_l1Cur_among.meets (AllMeets.cons spec_GroupsOf.meets (AllMeets.cons spec_l1Cur_pick.meets (AllMeets.cons spec_l1Cur_of.meets (AllMeets.cons spec_l1Cur_one.meets (AllMeets.cons spec_l1Cur_other.meets AllMeets.nil)))))))) (AllStill.cons (fun _ _ _ => rfl) (AllStill.cons (fun _ _ _ => rfl) (AllStill.cons (fun _ _ _ => rfl) (AllStill.cons (fun _ _ _ => rfl) (AllStill.cons (fun _ _ _ => rfl) (AllStill.cons (fun _ _ _ => rfl) (AllStill.cons (fun _ _ _ => rfl) (AllStill.cons (fun _ _ _ => rfl) AllStill.nil)))))))) follows (by kernel_rfl : Tryz.prog.funcs[22]? = some Tryz.f22) (by kernel_rfl) (by kernel_rfl) (by kernel_rfl)
noncomputable def spec_DrawApplyNear.C : Code := Tryz.f5.body.getD .skip
def spec_DrawApplyNear.P : Par := (.cons (.val (.list (.int .u8))) .nil)
noncomputable def spec_DrawApplyNear.U : SumTab := [(22, [], spec_l1Cur_groups.S), (23, [], spec_l1Cur_one.S), (24, [], spec_l1Good.S), (25, [], spec_l1Cur_among.S)]
noncomputable def spec_DrawApplyNear.E : Env := mkEnv TY AR spec_DrawApplyNear.U
def spec_DrawApplyNear.D11 : CutD := ⟨[5, 6, 7], (.cons (.box 0 (.pair (.list (.int .u8)) (.pair (.int .i64) (.one (.int .u64))))) (.cons (.val (.list .str)) (.cons (.own 8 (.pair (.int .i64) (.pair (.int .i64) (.one (.list (.pair (.int .i64) (.one .str))))))) .nil)))⟩
noncomputable def spec_DrawApplyNear.T : Tab := fun k => look k [(11, spec_DrawApplyNear.D11)]
def spec_DrawApplyNear.R : List (Nat × Ty) := [(0, .list .str), (9, .list (.pair (.int .i64) (.pair (.int .i64) (.one (.list (.pair (.int .i64) (.one .str))))))), (0, .int .i64)]
def spec_DrawApplyNear.X : List ResultVar := [.tmp 2, .tmp 3, .tmp 4]
noncomputable def spec_DrawApplyNear.K := fin spec_DrawApplyNear.E ⟨spec_DrawApplyNear.P, spec_DrawApplyNear.R, fun _ _ => none⟩ spec_DrawApplyNear.X spec_DrawApplyNear.P.len 0
noncomputable def spec_DrawApplyNear.l11 (c : (List Int) × Int × Int) (l : List ByteArray) (g : List (Int × Int × List (Int × ByteArray))) : Option ((List ByteArray) × (List (Int × Int × List (Int × ByteArray))) × Int) := fixP spec_DrawApplyNear.E spec_DrawApplyNear.T spec_DrawApplyNear.C spec_DrawApplyNear.K 11 spec_DrawApplyNear.D11 (c, l, g)
noncomputable def spec_DrawApplyNear.f (code : List Int) : Option ((List ByteArray) × (List (Int × Int × List (Int × ByteArray))) × Int) := Fn spec_DrawApplyNear.E spec_DrawApplyNear.T spec_DrawApplyNear.C spec_DrawApplyNear.P spec_DrawApplyNear.R spec_DrawApplyNear.X code
theorem spec_DrawApplyNear.l11_eq (c : (List Int) × Int × Int) (l : List ByteArray) (g : List (Int × Int × List (Int × ByteArray))) : spec_DrawApplyNear.l11 c l g =
  ((spec_l1Cur_among.f c [0, 1, 2, 5, 40]).bind fun y25 =>
  some (l, g, y25.1)) :=
  (fixP_eq spec_DrawApplyNear.E spec_DrawApplyNear.T spec_DrawApplyNear.C spec_DrawApplyNear.K 11 spec_DrawApplyNear.D11 (c, l, g)).trans (by kernel_rfl)
theorem spec_DrawApplyNear.f_eq (code : List Int) : spec_DrawApplyNear.f code =
  ((spec_l1Cur_groups.f (code, 0, 0)).bind fun y25 =>
  (spec_l1Cur_one.f y25.2.2 2).bind fun y26 =>
  bif y26.1 then ((spec_l1Good.f y25.1).bind fun y27 =>
   bif y27 then (bif (decide (([(⟨#[110, 101, 119, 10]⟩ : ByteArray)].length + y25.1.length) ≤ room 16)) then (spec_DrawApplyNear.l11 y26.2 ([(⟨#[110, 101, 119, 10]⟩ : ByteArray)] ++ y25.1) y25.2.1) else none) else
   (spec_DrawApplyNear.l11 y26.2 y25.1 y25.2.1)) else
  (spec_DrawApplyNear.l11 y26.2 y25.1 y25.2.1)) := by kernel_rfl
noncomputable def spec_DrawApplyNear.S : Abs.Sum := ⟨spec_DrawApplyNear.P, spec_DrawApplyNear.R, fun _ => Fn spec_DrawApplyNear.E spec_DrawApplyNear.T spec_DrawApplyNear.C spec_DrawApplyNear.P spec_DrawApplyNear.R spec_DrawApplyNear.X⟩
theorem spec_DrawApplyNear.meets : Meets Tryz.prog 5 spec_DrawApplyNear.S := meets_tab (S := spec_DrawApplyNear.U) tabOk_all (AllMeets.cons spec_l1Cur_groups.meets (AllMeets.cons spec_l1Cur_one.meets (AllMeets.cons spec_l1Good.meets (AllMeets.cons spec_l1Cur_among.meets AllMeets.nil)))) (AllStill.cons (fun _ _ _ => rfl) (AllStill.cons (fun _ _ _ => rfl) (AllStill.cons (fun _ _ _ => rfl) (AllStill.cons (fun _ _ _ => rfl) AllStill.nil)))) follows (by kernel_rfl : Tryz.prog.funcs[5]? = some Tryz.f5) (by kernel_rfl) (by kernel_rfl) (by kernel_rfl)
noncomputable def impl_in.C : Code := Tryz.f59.body.getD .skip
def impl_in.P : Par := (.cons (.val (.int .i64)) (.cons (.val (.int .i64)) (.cons (.val (.int .i64)) .nil)))
noncomputable def impl_in.U : SumTab := []
noncomputable def impl_in.E : Env := mkEnv TY AR impl_in.U
noncomputable def impl_in.T : Tab := fun k => look k []
def impl_in.R : List (Nat × Ty) := [(0, .bool)]
def impl_in.X : List ResultVar := [.tmp 6]
noncomputable def impl_in.f (n : Int) (low : Int) (high : Int) : Option (Bool) := Fn impl_in.E impl_in.T impl_in.C impl_in.P impl_in.R impl_in.X (n, low, high)
theorem impl_in.f_eq (n : Int) (low : Int) (high : Int) : impl_in.f n low high =
  (bif (decide (n ≥ low)) then (some (decide (n ≤ high))) else (some false)) := by kernel_rfl
noncomputable def impl_in.S : Abs.Sum := ⟨impl_in.P, impl_in.R, fun _ => Fn impl_in.E impl_in.T impl_in.C impl_in.P impl_in.R impl_in.X⟩
theorem impl_in.meets : Meets Tryz.prog 59 impl_in.S := meets_tab (S := impl_in.U) tabOk_all AllMeets.nil AllStill.nil follows (by kernel_rfl : Tryz.prog.funcs[59]? = some Tryz.f59) (by kernel_rfl) (by kernel_rfl) (by kernel_rfl)
noncomputable def impl_isLine.C : Code := Tryz.f71.body.getD .skip
def impl_isLine.P : Par := (.cons (.val .str) .nil)
noncomputable def impl_isLine.U : SumTab := [(59, [], impl_in.S), (86, [], strings_Contains.S)]
noncomputable def impl_isLine.E : Env := mkEnv TY AR impl_isLine.U
noncomputable def impl_isLine.T : Tab := fun k => look k []
def impl_isLine.R : List (Nat × Ty) := [(0, .bool)]
def impl_isLine.X : List ResultVar := [.tmp 2]
noncomputable def impl_isLine.f (line : ByteArray) : Option (Bool) := Fn impl_isLine.E impl_isLine.T impl_isLine.C impl_isLine.P impl_isLine.R impl_isLine.X line
theorem impl_isLine.f_eq (line : ByteArray) : impl_isLine.f line =
  ((impl_in.f (line.size : Int) 1 30).bind fun y25 =>
  bif y25 then (bif ((decide (0 ≤ (w64 ((line.size : Int) - 1)))) && (decide ((w64 ((line.size : Int) - 1)) ≤ (line.size : Int)))) then ((strings_Contains.f (line.extract 0 ((w64 ((line.size : Int) - 1))).toNat) (⟨#[10]⟩ : ByteArray)).bind fun y26 =>
    some (!y26)) else none) else (some false)) := by kernel_rfl
noncomputable def impl_isLine.S : Abs.Sum := ⟨impl_isLine.P, impl_isLine.R, fun _ => Fn impl_isLine.E impl_isLine.T impl_isLine.C impl_isLine.P impl_isLine.R impl_isLine.X⟩
theorem impl_isLine.meets : Meets Tryz.prog 71 impl_isLine.S := meets_tab (S := impl_isLine.U) tabOk_all (AllMeets.cons impl_in.meets (AllMeets.cons strings_Contains.meets AllMeets.nil)) (AllStill.cons (fun _ _ _ => rfl) (AllStill.cons (fun _ _ _ => rfl) AllStill.nil)) follows (by kernel_rfl : Tryz.prog.funcs[71]? = some Tryz.f71) (by kernel_rfl) (by kernel_rfl) (by kernel_rfl)
noncomputable def impl_areLines_1.C : Code := Tryz.f74.body.getD .skip
def impl_areLines_1.P : Par := (.cons (.val .str) .nil)
noncomputable def impl_areLines_1.U : SumTab := [(71, [], impl_isLine.S)]
noncomputable def impl_areLines_1.E : Env := mkEnv TY AR impl_areLines_1.U
noncomputable def impl_areLines_1.T : Tab := fun k => look k []
def impl_areLines_1.R : List (Nat × Ty) := [(0, .bool)]
def impl_areLines_1.X : List ResultVar := [.tmp 2]
noncomputable def impl_areLines_1.f (line : ByteArray) : Option (Bool) := Fn impl_areLines_1.E impl_areLines_1.T impl_areLines_1.C impl_areLines_1.P impl_areLines_1.R impl_areLines_1.X line
theorem impl_areLines_1.f_eq (line : ByteArray) : impl_areLines_1.f line =
  ((impl_isLine.f line).bind fun y25 =>
  some (!y25)) := by kernel_rfl
noncomputable def impl_areLines_1.S : Abs.Sum := ⟨impl_areLines_1.P, impl_areLines_1.R, fun _ => Fn impl_areLines_1.E impl_areLines_1.T impl_areLines_1.C impl_areLines_1.P impl_areLines_1.R impl_areLines_1.X⟩
theorem impl_areLines_1.meets : Meets Tryz.prog 74 impl_areLines_1.S := meets_tab (S := impl_areLines_1.U) tabOk_all (AllMeets.cons impl_isLine.meets AllMeets.nil) (AllStill.cons (fun _ _ _ => rfl) AllStill.nil) follows (by kernel_rfl : Tryz.prog.funcs[74]? = some Tryz.f74) (by kernel_rfl) (by kernel_rfl) (by kernel_rfl)
noncomputable def slices_IndexFunc_Lstring_string__impl_areLines_1.C : Code := Tryz.f87.body.getD .skip
def slices_IndexFunc_Lstring_string__impl_areLines_1.P : Par := (.cons (.val (.list .str)) (.cons (.fn 74 .nil) .nil))
noncomputable def slices_IndexFunc_Lstring_string__impl_areLines_1.U : SumTab := [(74, [], impl_areLines_1.S)]
noncomputable def slices_IndexFunc_Lstring_string__impl_areLines_1.E : Env := mkEnv TY AR slices_IndexFunc_Lstring_string__impl_areLines_1.U
def slices_IndexFunc_Lstring_string__impl_areLines_1.D4 : CutD := ⟨[0, 1, 7, 8], (.cons (.val (.list .str)) (.cons (.fn 74 .nil) (.cons (.val (.int .i64)) (.cons (.val (.int .i64)) .nil))))⟩
noncomputable def slices_IndexFunc_Lstring_string__impl_areLines_1.T : Tab := fun k => look k [(4, slices_IndexFunc_Lstring_string__impl_areLines_1.D4)]
def slices_IndexFunc_Lstring_string__impl_areLines_1.R : List (Nat × Ty) := [(0, .int .i64)]
def slices_IndexFunc_Lstring_string__impl_areLines_1.X : List ResultVar := [.tmp 4]
noncomputable def slices_IndexFunc_Lstring_string__impl_areLines_1.K := fin slices_IndexFunc_Lstring_string__impl_areLines_1.E ⟨slices_IndexFunc_Lstring_string__impl_areLines_1.P, slices_IndexFunc_Lstring_string__impl_areLines_1.R, fun _ _ => none⟩ slices_IndexFunc_Lstring_string__impl_areLines_1.X slices_IndexFunc_Lstring_string__impl_areLines_1.P.len 0
noncomputable def slices_IndexFunc_Lstring_string__impl_areLines_1.l4 (s : List ByteArray) (t7 : Int) (t8 : Int) : Option (Int) := fixP slices_IndexFunc_Lstring_string__impl_areLines_1.E slices_IndexFunc_Lstring_string__impl_areLines_1.T slices_IndexFunc_Lstring_string__impl_areLines_1.C slices_IndexFunc_Lstring_string__impl_areLines_1.K 4 slices_IndexFunc_Lstring_string__impl_areLines_1.D4 (s, t7, t8)
noncomputable def slices_IndexFunc_Lstring_string__impl_areLines_1.f (s : List ByteArray) : Option (Int) := Fn slices_IndexFunc_Lstring_string__impl_areLines_1.E slices_IndexFunc_Lstring_string__impl_areLines_1.T slices_IndexFunc_Lstring_string__impl_areLines_1.C slices_IndexFunc_Lstring_string__impl_areLines_1.P slices_IndexFunc_Lstring_string__impl_areLines_1.R slices_IndexFunc_Lstring_string__impl_areLines_1.X s
theorem slices_IndexFunc_Lstring_string__impl_areLines_1.l4_eq (s : List ByteArray) (t7 : Int) (t8 : Int) : slices_IndexFunc_Lstring_string__impl_areLines_1.l4 s t7 t8 =
  (bif (decide (t8 < t7)) then (bif ((decide (0 ≤ t8)) && (decide (t8 < (s.length : Int)))) then ((impl_areLines_1.f (s.getD (t8).toNat em)).bind fun y25 =>
    bif y25 then (some t8) else
    (slices_IndexFunc_Lstring_string__impl_areLines_1.l4 s t7 (w64 (t8 + 1)))) else none) else (some (-1))) :=
  (fixP_eq slices_IndexFunc_Lstring_string__impl_areLines_1.E slices_IndexFunc_Lstring_string__impl_areLines_1.T slices_IndexFunc_Lstring_string__impl_areLines_1.C slices_IndexFunc_Lstring_string__impl_areLines_1.K 4 slices_IndexFunc_Lstring_string__impl_areLines_1.D4 (s, t7, t8)).trans (by kernel_rfl)
theorem slices_IndexFunc_Lstring_string__impl_areLines_1.f_eq (s : List ByteArray) : slices_IndexFunc_Lstring_string__impl_areLines_1.f s =
  (slices_IndexFunc_Lstring_string__impl_areLines_1.l4 s (s.length : Int) 0) := by kernel_rfl
noncomputable def slices_IndexFunc_Lstring_string__impl_areLines_1.S : Abs.Sum := ⟨slices_IndexFunc_Lstring_string__impl_areLines_1.P, slices_IndexFunc_Lstring_string__impl_areLines_1.R, fun _ => Fn slices_IndexFunc_Lstring_string__impl_areLines_1.E slices_IndexFunc_Lstring_string__impl_areLines_1.T slices_IndexFunc_Lstring_string__impl_areLines_1.C slices_IndexFunc_Lstring_string__impl_areLines_1.P slices_IndexFunc_Lstring_string__impl_areLines_1.R slices_IndexFunc_Lstring_string__impl_areLines_1.X⟩
theorem slices_IndexFunc_Lstring_string__impl_areLines_1.meets : Meets Tryz.prog 87 slices_IndexFunc_Lstring_string__impl_areLines_1.S := meets_tab (S := slices_IndexFunc_Lstring_string__impl_areLines_1.U) tabOk_all (AllMeets.cons impl_areLines_1.meets AllMeets.nil) (AllStill.cons (fun _ _ _ => rfl) AllStill.nil) follows (by kernel_rfl : Tryz.prog.funcs[87]? = some Tryz.f87) (by kernel_rfl) (by kernel_rfl) (by kernel_rfl)
noncomputable def slices_ContainsFunc_Lstring_string__impl_areLines_1.C : Code := Tryz.f73.body.getD .skip
def slices_ContainsFunc_Lstring_string__impl_areLines_1.P : Par := (.cons (.val (.list .str)) (.cons (.fn 74 .nil) .nil))
noncomputable def slices_ContainsFunc_Lstring_string__impl_areLines_1.U : SumTab := [(87, [74], slices_IndexFunc_Lstring_string__impl_areLines_1.S)]
noncomputable def slices_ContainsFunc_Lstring_string__impl_areLines_1.E : Env := mkEnv TY AR slices_ContainsFunc_Lstring_string__impl_areLines_1.U
noncomputable def slices_ContainsFunc_Lstring_string__impl_areLines_1.T : Tab := fun k => look k []
def slices_ContainsFunc_Lstring_string__impl_areLines_1.R : List (Nat × Ty) := [(0, .bool)]
def slices_ContainsFunc_Lstring_string__impl_areLines_1.X : List ResultVar := [.tmp 4]
noncomputable def slices_ContainsFunc_Lstring_string__impl_areLines_1.f (s : List ByteArray) : Option (Bool) := Fn slices_ContainsFunc_Lstring_string__impl_areLines_1.E slices_ContainsFunc_Lstring_string__impl_areLines_1.T slices_ContainsFunc_Lstring_string__impl_areLines_1.C slices_ContainsFunc_Lstring_string__impl_areLines_1.P slices_ContainsFunc_Lstring_string__impl_areLines_1.R slices_ContainsFunc_Lstring_string__impl_areLines_1.X s
theorem slices_ContainsFunc_Lstring_string__impl_areLines_1.f_eq (s : List ByteArray) : slices_ContainsFunc_Lstring_string__impl_areLines_1.f s =
  ((slices_IndexFunc_Lstring_string__impl_areLines_1.f s).bind fun y25 =>
  some (decide (y25 ≥ 0))) := by kernel_rfl
noncomputable def slices_ContainsFunc_Lstring_string__impl_areLines_1.S : Abs.Sum := ⟨slices_ContainsFunc_Lstring_string__impl_areLines_1.P, slices_ContainsFunc_Lstring_string__impl_areLines_1.R, fun _ => Fn slices_ContainsFunc_Lstring_string__impl_areLines_1.E slices_ContainsFunc_Lstring_string__impl_areLines_1.T slices_ContainsFunc_Lstring_string__impl_areLines_1.C slices_ContainsFunc_Lstring_string__impl_areLines_1.P slices_ContainsFunc_Lstring_string__impl_areLines_1.R slices_ContainsFunc_Lstring_string__impl_areLines_1.X⟩
theorem slices_ContainsFunc_Lstring_string__impl_areLines_1.meets : Meets Tryz.prog 73 slices_ContainsFunc_Lstring_string__impl_areLines_1.S := meets_tab (S := slices_ContainsFunc_Lstring_string__impl_areLines_1.U) tabOk_all (AllMeets.cons slices_IndexFunc_Lstring_string__impl_areLines_1.meets AllMeets.nil) (AllStill.cons (fun _ _ _ => rfl) AllStill.nil) follows (by kernel_rfl : Tryz.prog.funcs[73]? = some Tryz.f73) (by kernel_rfl) (by kernel_rfl) (by kernel_rfl)
noncomputable def impl_areLines.C : Code := Tryz.f45.body.getD .skip
def impl_areLines.P : Par := (.cons (.val (.list .str)) .nil)
noncomputable def impl_areLines.U : SumTab := [(73, [74], slices_ContainsFunc_Lstring_string__impl_areLines_1.S)]
noncomputable def impl_areLines.E : Env := mkEnv TY AR impl_areLines.U
noncomputable def impl_areLines.T : Tab := fun k => look k []
def impl_areLines.R : List (Nat × Ty) := [(0, .bool)]
def impl_areLines.X : List ResultVar := [.tmp 2]
noncomputable def impl_areLines.f (l : List ByteArray) : Option (Bool) := Fn impl_areLines.E impl_areLines.T impl_areLines.C impl_areLines.P impl_areLines.R impl_areLines.X l
theorem impl_areLines.f_eq (l : List ByteArray) : impl_areLines.f l =
  (bif (decide ((l.length : Int) ≤ 40)) then ((slices_ContainsFunc_Lstring_string__impl_areLines_1.f l).bind fun y25 =>
   some (!y25)) else (some false)) := by kernel_rfl
noncomputable def impl_areLines.S : Abs.Sum := ⟨impl_areLines.P, impl_areLines.R, fun _ => Fn impl_areLines.E impl_areLines.T impl_areLines.C impl_areLines.P impl_areLines.R impl_areLines.X⟩
theorem impl_areLines.meets : Meets Tryz.prog 45 impl_areLines.S := meets_tab (S := impl_areLines.U) tabOk_all (AllMeets.cons slices_ContainsFunc_Lstring_string__impl_areLines_1.meets AllMeets.nil) (AllStill.cons (fun _ _ _ => rfl) AllStill.nil) follows (by kernel_rfl : Tryz.prog.funcs[45]? = some Tryz.f45) (by kernel_rfl) (by kernel_rfl) (by kernel_rfl)
noncomputable def internal_stringslite_HasSuffix.C : Code := Tryz.f91.body.getD .skip
def internal_stringslite_HasSuffix.P : Par := (.cons (.val .str) (.cons (.val .str) .nil))
noncomputable def internal_stringslite_HasSuffix.U : SumTab := []
noncomputable def internal_stringslite_HasSuffix.E : Env := mkEnv TY AR internal_stringslite_HasSuffix.U
noncomputable def internal_stringslite_HasSuffix.T : Tab := fun k => look k []
def internal_stringslite_HasSuffix.R : List (Nat × Ty) := [(0, .bool)]
def internal_stringslite_HasSuffix.X : List ResultVar := [.tmp 4]
noncomputable def internal_stringslite_HasSuffix.f (s : ByteArray) (suffix : ByteArray) : Option (Bool) := Fn internal_stringslite_HasSuffix.E internal_stringslite_HasSuffix.T internal_stringslite_HasSuffix.C internal_stringslite_HasSuffix.P internal_stringslite_HasSuffix.R internal_stringslite_HasSuffix.X (s, suffix)
theorem internal_stringslite_HasSuffix.f_eq (s : ByteArray) (suffix : ByteArray) : internal_stringslite_HasSuffix.f s suffix =
  (bif (decide ((s.size : Int) ≥ (suffix.size : Int))) then (bif ((decide (0 ≤ (w64 ((s.size : Int) - (suffix.size : Int))))) && (decide ((w64 ((s.size : Int) - (suffix.size : Int))) ≤ (s.size : Int)))) then (some ((s.extract ((w64 ((s.size : Int) - (suffix.size : Int)))).toNat s.size).toList == suffix.toList)) else none) else (some false)) := by kernel_rfl
noncomputable def internal_stringslite_HasSuffix.S : Abs.Sum := ⟨internal_stringslite_HasSuffix.P, internal_stringslite_HasSuffix.R, fun _ => Fn internal_stringslite_HasSuffix.E internal_stringslite_HasSuffix.T internal_stringslite_HasSuffix.C internal_stringslite_HasSuffix.P internal_stringslite_HasSuffix.R internal_stringslite_HasSuffix.X⟩
theorem internal_stringslite_HasSuffix.meets : Meets Tryz.prog 91 internal_stringslite_HasSuffix.S := meets_tab (S := internal_stringslite_HasSuffix.U) tabOk_all AllMeets.nil AllStill.nil follows (by kernel_rfl : Tryz.prog.funcs[91]? = some Tryz.f91) (by kernel_rfl) (by kernel_rfl) (by kernel_rfl)
noncomputable def strings_HasSuffix.C : Code := Tryz.f83.body.getD .skip
def strings_HasSuffix.P : Par := (.cons (.val .str) (.cons (.val .str) .nil))
noncomputable def strings_HasSuffix.U : SumTab := [(91, [], internal_stringslite_HasSuffix.S)]
noncomputable def strings_HasSuffix.E : Env := mkEnv TY AR strings_HasSuffix.U
noncomputable def strings_HasSuffix.T : Tab := fun k => look k []
def strings_HasSuffix.R : List (Nat × Ty) := [(0, .bool)]
def strings_HasSuffix.X : List ResultVar := [.tmp 4]
noncomputable def strings_HasSuffix.f (s : ByteArray) (suffix : ByteArray) : Option (Bool) := Fn strings_HasSuffix.E strings_HasSuffix.T strings_HasSuffix.C strings_HasSuffix.P strings_HasSuffix.R strings_HasSuffix.X (s, suffix)
theorem strings_HasSuffix.f_eq (s : ByteArray) (suffix : ByteArray) : strings_HasSuffix.f s suffix =
  ((internal_stringslite_HasSuffix.f s suffix).bind fun y25 =>
  some y25) := by kernel_rfl
noncomputable def strings_HasSuffix.S : Abs.Sum := ⟨strings_HasSuffix.P, strings_HasSuffix.R, fun _ => Fn strings_HasSuffix.E strings_HasSuffix.T strings_HasSuffix.C strings_HasSuffix.P strings_HasSuffix.R strings_HasSuffix.X⟩
theorem strings_HasSuffix.meets : Meets Tryz.prog 83 strings_HasSuffix.S := meets_tab (S := strings_HasSuffix.U) tabOk_all (AllMeets.cons internal_stringslite_HasSuffix.meets AllMeets.nil) (AllStill.cons (fun _ _ _ => rfl) AllStill.nil) follows (by kernel_rfl : Tryz.prog.funcs[83]? = some Tryz.f83) (by kernel_rfl) (by kernel_rfl) (by kernel_rfl)
noncomputable def impl_isEnded.C : Code := Tryz.f58.body.getD .skip
def impl_isEnded.P : Par := (.cons (.val .str) .nil)
noncomputable def impl_isEnded.U : SumTab := [(83, [], strings_HasSuffix.S)]
noncomputable def impl_isEnded.E : Env := mkEnv TY AR impl_isEnded.U
noncomputable def impl_isEnded.T : Tab := fun k => look k []
def impl_isEnded.R : List (Nat × Ty) := [(0, .bool)]
def impl_isEnded.X : List ResultVar := [.tmp 2]
noncomputable def impl_isEnded.f (line : ByteArray) : Option (Bool) := Fn impl_isEnded.E impl_isEnded.T impl_isEnded.C impl_isEnded.P impl_isEnded.R impl_isEnded.X line
theorem impl_isEnded.f_eq (line : ByteArray) : impl_isEnded.f line =
  ((strings_HasSuffix.f line (⟨#[10]⟩ : ByteArray)).bind fun y25 =>
  some y25) := by kernel_rfl
noncomputable def impl_isEnded.S : Abs.Sum := ⟨impl_isEnded.P, impl_isEnded.R, fun _ => Fn impl_isEnded.E impl_isEnded.T impl_isEnded.C impl_isEnded.P impl_isEnded.R impl_isEnded.X⟩
theorem impl_isEnded.meets : Meets Tryz.prog 58 impl_isEnded.S := meets_tab (S := impl_isEnded.U) tabOk_all (AllMeets.cons strings_HasSuffix.meets AllMeets.nil) (AllStill.cons (fun _ _ _ => rfl) AllStill.nil) follows (by kernel_rfl : Tryz.prog.funcs[58]? = some Tryz.f58) (by kernel_rfl) (by kernel_rfl) (by kernel_rfl)
noncomputable def impl_goodLines.C : Code := Tryz.f26.body.getD .skip
def impl_goodLines.P : Par := (.cons (.val (.list .str)) .nil)
noncomputable def impl_goodLines.U : SumTab := [(45, [], impl_areLines.S), (58, [], impl_isEnded.S)]
noncomputable def impl_goodLines.E : Env := mkEnv TY AR impl_goodLines.U
def impl_goodLines.D8 : CutD := ⟨[0, 8, 9, 10], (.cons (.val (.list .str)) (.cons (.val (.list .str)) (.cons (.val (.int .i64)) (.cons (.val (.int .i64)) .nil))))⟩
noncomputable def impl_goodLines.T : Tab := fun k => look k [(8, impl_goodLines.D8)]
def impl_goodLines.R : List (Nat × Ty) := [(0, .bool)]
def impl_goodLines.X : List ResultVar := [.tmp 2]
noncomputable def impl_goodLines.K := fin impl_goodLines.E ⟨impl_goodLines.P, impl_goodLines.R, fun _ _ => none⟩ impl_goodLines.X impl_goodLines.P.len 0
noncomputable def impl_goodLines.l8 (l : List ByteArray) (t8 : List ByteArray) (t9 : Int) (t10 : Int) : Option (Bool) := fixP impl_goodLines.E impl_goodLines.T impl_goodLines.C impl_goodLines.K 8 impl_goodLines.D8 (l, t8, t9, t10)
noncomputable def impl_goodLines.f (l : List ByteArray) : Option (Bool) := Fn impl_goodLines.E impl_goodLines.T impl_goodLines.C impl_goodLines.P impl_goodLines.R impl_goodLines.X l
theorem impl_goodLines.l8_eq (l : List ByteArray) (t8 : List ByteArray) (t9 : Int) (t10 : Int) : impl_goodLines.l8 l t8 t9 t10 =
  (bif (decide (t10 < t9)) then (bif ((decide (0 ≤ t10)) && (decide (t10 < (t8.length : Int)))) then (bif (decide (t10 < (w64 ((l.length : Int) - 1)))) then ((impl_isEnded.f (t8.getD (t10).toNat em)).bind fun y25 =>
     bif (!y25) then (some false) else
     (impl_goodLines.l8 l t8 t9 (w64 (t10 + 1)))) else
    (impl_goodLines.l8 l t8 t9 (w64 (t10 + 1)))) else none) else (some true)) :=
  (fixP_eq impl_goodLines.E impl_goodLines.T impl_goodLines.C impl_goodLines.K 8 impl_goodLines.D8 (l, t8, t9, t10)).trans (by kernel_rfl)
theorem impl_goodLines.f_eq (l : List ByteArray) : impl_goodLines.f l =
  ((impl_areLines.f l).bind fun y25 =>
  bif (!y25) then (some false) else
  (impl_goodLines.l8 l l (l.length : Int) 0)) := by kernel_rfl
noncomputable def impl_goodLines.S : Abs.Sum := ⟨impl_goodLines.P, impl_goodLines.R, fun _ => Fn impl_goodLines.E impl_goodLines.T impl_goodLines.C impl_goodLines.P impl_goodLines.R impl_goodLines.X⟩
theorem impl_goodLines.meets : Meets Tryz.prog 26 impl_goodLines.S := meets_tab (S := impl_goodLines.U) tabOk_all (AllMeets.cons impl_areLines.meets (AllMeets.cons impl_isEnded.meets AllMeets.nil)) (AllStill.cons (fun _ _ _ => rfl) (AllStill.cons (fun _ _ _ => rfl) AllStill.nil)) follows (by kernel_rfl : Tryz.prog.funcs[26]? = some Tryz.f26) (by kernel_rfl) (by kernel_rfl) (by kernel_rfl)
noncomputable def impl_sideOf.C : Code := Tryz.f60.body.getD .skip
def impl_sideOf.P : Par := (.cons (.val (.list (.pair (.int .i64) (.one .str)))) (.cons (.val (.int .i64)) .nil))
noncomputable def impl_sideOf.U : SumTab := []
noncomputable def impl_sideOf.E : Env := mkEnv TY AR impl_sideOf.U
def impl_sideOf.D6 : CutD := ⟨[1, 5, 9, 10, 11], (.cons (.val (.int .i64)) (.cons (.own 9 .str) (.cons (.val (.list (.pair (.int .i64) (.one .str)))) (.cons (.val (.int .i64)) (.cons (.val (.int .i64)) .nil)))))⟩
noncomputable def impl_sideOf.T : Tab := fun k => look k [(6, impl_sideOf.D6)]
def impl_sideOf.R : List (Nat × Ty) := [(9, .list .str)]
def impl_sideOf.X : List ResultVar := [.tmp 4]
noncomputable def impl_sideOf.K := fin impl_sideOf.E ⟨impl_sideOf.P, impl_sideOf.R, fun _ _ => none⟩ impl_sideOf.X impl_sideOf.P.len 0
noncomputable def impl_sideOf.l6 (not : Int) (out : List ByteArray) (t9 : List (Int × ByteArray)) (t10 : Int) (t11 : Int) : Option ((List ByteArray)) := fixP impl_sideOf.E impl_sideOf.T impl_sideOf.C impl_sideOf.K 6 impl_sideOf.D6 (not, out, t9, t10, t11)
noncomputable def impl_sideOf.f (rows : List (Int × ByteArray)) (not : Int) : Option ((List ByteArray)) := Fn impl_sideOf.E impl_sideOf.T impl_sideOf.C impl_sideOf.P impl_sideOf.R impl_sideOf.X (rows, not)
theorem impl_sideOf.l6_eq (not : Int) (out : List ByteArray) (t9 : List (Int × ByteArray)) (t10 : Int) (t11 : Int) : impl_sideOf.l6 not out t9 t10 t11 =
  (bif (decide (t11 < t10)) then (bif ((decide (0 ≤ t11)) && (decide (t11 < (t9.length : Int)))) then (bif (!(decide ((t9.getD (t11).toNat (0, em)).1 = not))) then (bif (decide ((out.length + [(t9.getD (t11).toNat (0, em)).2].length) ≤ room 16)) then (impl_sideOf.l6 not (out ++ [(t9.getD (t11).toNat (0, em)).2]) t9 t10 (w64 (t11 + 1))) else none) else
    (impl_sideOf.l6 not out t9 t10 (w64 (t11 + 1)))) else none) else (some out)) :=
  (fixP_eq impl_sideOf.E impl_sideOf.T impl_sideOf.C impl_sideOf.K 6 impl_sideOf.D6 (not, out, t9, t10, t11)).trans (by kernel_rfl)
theorem impl_sideOf.f_eq (rows : List (Int × ByteArray)) (not : Int) : impl_sideOf.f rows not =
  (impl_sideOf.l6 not ([] : List ByteArray) rows (rows.length : Int) 0) := by kernel_rfl
noncomputable def impl_sideOf.S : Abs.Sum := ⟨impl_sideOf.P, impl_sideOf.R, fun _ => Fn impl_sideOf.E impl_sideOf.T impl_sideOf.C impl_sideOf.P impl_sideOf.R impl_sideOf.X⟩
theorem impl_sideOf.meets : Meets Tryz.prog 60 impl_sideOf.S := meets_tab (S := impl_sideOf.U) tabOk_all AllMeets.nil AllStill.nil follows (by kernel_rfl : Tryz.prog.funcs[60]? = some Tryz.f60) (by kernel_rfl) (by kernel_rfl) (by kernel_rfl)
noncomputable def impl_Group_old.C : Code := Tryz.f30.body.getD .skip
def impl_Group_old.P : Par := (.cons (.val (.pair (.int .i64) (.pair (.int .i64) (.one (.list (.pair (.int .i64) (.one .str))))))) .nil)
noncomputable def impl_Group_old.U : SumTab := [(60, [], impl_sideOf.S)]
noncomputable def impl_Group_old.E : Env := mkEnv TY AR impl_Group_old.U
noncomputable def impl_Group_old.T : Tab := fun k => look k []
def impl_Group_old.R : List (Nat × Ty) := [(9, .list .str)]
def impl_Group_old.X : List ResultVar := [.tmp 2]
noncomputable def impl_Group_old.f (g : Int × Int × List (Int × ByteArray)) : Option ((List ByteArray)) := Fn impl_Group_old.E impl_Group_old.T impl_Group_old.C impl_Group_old.P impl_Group_old.R impl_Group_old.X g
theorem impl_Group_old.f_eq (g : Int × Int × List (Int × ByteArray)) : impl_Group_old.f g =
  ((impl_sideOf.f g.2.2 3).bind fun y25 =>
  some y25) := by kernel_rfl
noncomputable def impl_Group_old.S : Abs.Sum := ⟨impl_Group_old.P, impl_Group_old.R, fun _ => Fn impl_Group_old.E impl_Group_old.T impl_Group_old.C impl_Group_old.P impl_Group_old.R impl_Group_old.X⟩
theorem impl_Group_old.meets : Meets Tryz.prog 30 impl_Group_old.S := meets_tab (S := impl_Group_old.U) tabOk_all (AllMeets.cons impl_sideOf.meets AllMeets.nil) (AllStill.cons (fun _ _ _ => rfl) AllStill.nil) follows (by kernel_rfl : Tryz.prog.funcs[30]? = some Tryz.f30) (by kernel_rfl) (by kernel_rfl) (by kernel_rfl)
noncomputable def impl_Group_fresh.C : Code := Tryz.f31.body.getD .skip
def impl_Group_fresh.P : Par := (.cons (.val (.pair (.int .i64) (.pair (.int .i64) (.one (.list (.pair (.int .i64) (.one .str))))))) .nil)
noncomputable def impl_Group_fresh.U : SumTab := [(60, [], impl_sideOf.S)]
noncomputable def impl_Group_fresh.E : Env := mkEnv TY AR impl_Group_fresh.U
noncomputable def impl_Group_fresh.T : Tab := fun k => look k []
def impl_Group_fresh.R : List (Nat × Ty) := [(9, .list .str)]
def impl_Group_fresh.X : List ResultVar := [.tmp 2]
noncomputable def impl_Group_fresh.f (g : Int × Int × List (Int × ByteArray)) : Option ((List ByteArray)) := Fn impl_Group_fresh.E impl_Group_fresh.T impl_Group_fresh.C impl_Group_fresh.P impl_Group_fresh.R impl_Group_fresh.X g
theorem impl_Group_fresh.f_eq (g : Int × Int × List (Int × ByteArray)) : impl_Group_fresh.f g =
  ((impl_sideOf.f g.2.2 2).bind fun y25 =>
  some y25) := by kernel_rfl
noncomputable def impl_Group_fresh.S : Abs.Sum := ⟨impl_Group_fresh.P, impl_Group_fresh.R, fun _ => Fn impl_Group_fresh.E impl_Group_fresh.T impl_Group_fresh.C impl_Group_fresh.P impl_Group_fresh.R impl_Group_fresh.X⟩
theorem impl_Group_fresh.meets : Meets Tryz.prog 31 impl_Group_fresh.S := meets_tab (S := impl_Group_fresh.U) tabOk_all (AllMeets.cons impl_sideOf.meets AllMeets.nil) (AllStill.cons (fun _ _ _ => rfl) AllStill.nil) follows (by kernel_rfl : Tryz.prog.funcs[31]? = some Tryz.f31) (by kernel_rfl) (by kernel_rfl) (by kernel_rfl)
noncomputable def impl_goodGroup.C : Code := Tryz.f42.body.getD .skip
def impl_goodGroup.P : Par := (.cons (.val (.pair (.int .i64) (.pair (.int .i64) (.one (.list (.pair (.int .i64) (.one .str))))))) .nil)
noncomputable def impl_goodGroup.U : SumTab := [(59, [], impl_in.S), (71, [], impl_isLine.S), (30, [], impl_Group_old.S), (31, [], impl_Group_fresh.S), (26, [], impl_goodLines.S)]
noncomputable def impl_goodGroup.E : Env := mkEnv TY AR impl_goodGroup.U
def impl_goodGroup.D7 : CutD := ⟨[1], (.cons (.box 0 (.pair (.int .i64) (.pair (.int .i64) (.one (.list (.pair (.int .i64) (.one .str))))))) .nil)⟩
def impl_goodGroup.D10 : CutD := ⟨[1, 3, 26, 27, 28], (.cons (.box 0 (.pair (.int .i64) (.pair (.int .i64) (.one (.list (.pair (.int .i64) (.one .str))))))) (.cons (.val .bool) (.cons (.val (.list (.pair (.int .i64) (.one .str)))) (.cons (.val (.int .i64)) (.cons (.val (.int .i64)) .nil)))))⟩
def impl_goodGroup.D19 : CutD := ⟨[1, 3, 5, 26, 27, 28], (.cons (.box 0 (.pair (.int .i64) (.pair (.int .i64) (.one (.list (.pair (.int .i64) (.one .str))))))) (.cons (.val .bool) (.cons (.box 9 (.pair (.int .i64) (.one .str))) (.cons (.val (.list (.pair (.int .i64) (.one .str)))) (.cons (.val (.int .i64)) (.cons (.val (.int .i64)) .nil))))))⟩
noncomputable def impl_goodGroup.T : Tab := fun k => look k [(7, impl_goodGroup.D7), (10, impl_goodGroup.D10), (19, impl_goodGroup.D19)]
def impl_goodGroup.R : List (Nat × Ty) := [(0, .bool)]
def impl_goodGroup.X : List ResultVar := [.tmp 2]
noncomputable def impl_goodGroup.K := fin impl_goodGroup.E ⟨impl_goodGroup.P, impl_goodGroup.R, fun _ _ => none⟩ impl_goodGroup.X impl_goodGroup.P.len 0
noncomputable def impl_goodGroup.l7 (g : Int × Int × List (Int × ByteArray)) : Option (Bool) := fixP impl_goodGroup.E impl_goodGroup.T impl_goodGroup.C impl_goodGroup.K 7 impl_goodGroup.D7 g
noncomputable def impl_goodGroup.l10 (g : Int × Int × List (Int × ByteArray)) (changes : Bool) (t26 : List (Int × ByteArray)) (t27 : Int) (t28 : Int) : Option (Bool) := fixP impl_goodGroup.E impl_goodGroup.T impl_goodGroup.C impl_goodGroup.K 10 impl_goodGroup.D10 (g, changes, t26, t27, t28)
noncomputable def impl_goodGroup.l19 (g : Int × Int × List (Int × ByteArray)) (changes : Bool) (r : Int × ByteArray) (t26 : List (Int × ByteArray)) (t27 : Int) (t28 : Int) : Option (Bool) := fixP impl_goodGroup.E impl_goodGroup.T impl_goodGroup.C impl_goodGroup.K 19 impl_goodGroup.D19 (g, changes, r, t26, t27, t28)
noncomputable def impl_goodGroup.f (g : Int × Int × List (Int × ByteArray)) : Option (Bool) := Fn impl_goodGroup.E impl_goodGroup.T impl_goodGroup.C impl_goodGroup.P impl_goodGroup.R impl_goodGroup.X g
theorem impl_goodGroup.l7_eq (g : Int × Int × List (Int × ByteArray)) : impl_goodGroup.l7 g =
  (impl_goodGroup.l10 g false g.2.2 (g.2.2.length : Int) 0) :=
  (fixP_eq impl_goodGroup.E impl_goodGroup.T impl_goodGroup.C impl_goodGroup.K 7 impl_goodGroup.D7 g).trans (by kernel_rfl)
theorem impl_goodGroup.l10_eq (g : Int × Int × List (Int × ByteArray)) (changes : Bool) (t26 : List (Int × ByteArray)) (t27 : Int) (t28 : Int) : impl_goodGroup.l10 g changes t26 t27 t28 =
  (bif (decide (t28 < t27)) then (bif ((decide (0 ≤ t28)) && (decide (t28 < (t26.length : Int)))) then ((impl_in.f (t26.getD (t28).toNat (0, em)).1 1 3).bind fun y25 =>
    bif (!y25) then (some false) else
    ((impl_isLine.f (t26.getD (t28).toNat (0, em)).2).bind fun y26 =>
     bif (!y26) then (some false) else
     (bif (decide (t28 > 0)) then (bif (decide ((t26.getD (t28).toNat (0, em)).1 = 2)) then (bif ((decide (0 ≤ (w64 (t28 - 1)))) && (decide ((w64 (t28 - 1)) < (g.2.2.length : Int)))) then (bif (decide ((g.2.2.getD ((w64 (t28 - 1))).toNat (0, em)).1 = 3)) then (some false) else
         (impl_goodGroup.l19 g changes (t26.getD (t28).toNat (0, em)) t26 t27 t28)) else none) else
       (impl_goodGroup.l19 g changes (t26.getD (t28).toNat (0, em)) t26 t27 t28)) else
      (impl_goodGroup.l19 g changes (t26.getD (t28).toNat (0, em)) t26 t27 t28)))) else none) else
  ((impl_Group_old.f g).bind fun y25 =>
   (impl_Group_fresh.f g).bind fun y26 =>
   bif changes then ((impl_goodLines.f y25).bind fun y27 =>
    bif y27 then ((impl_goodLines.f y26).bind fun y28 =>
     bif y28 then (bif (decide ((w64 (g.1 + (y25.length : Int))) ≤ 1000)) then (some (decide ((w64 (g.2.1 + (y26.length : Int))) ≤ 1000))) else (some false)) else (some false)) else (some false)) else (some false))) :=
  (fixP_eq impl_goodGroup.E impl_goodGroup.T impl_goodGroup.C impl_goodGroup.K 10 impl_goodGroup.D10 (g, changes, t26, t27, t28)).trans (by kernel_rfl)
theorem impl_goodGroup.l19_eq (g : Int × Int × List (Int × ByteArray)) (changes : Bool) (r : Int × ByteArray) (t26 : List (Int × ByteArray)) (t27 : Int) (t28 : Int) : impl_goodGroup.l19 g changes r t26 t27 t28 =
  (bif changes then (impl_goodGroup.l10 g true t26 t27 (w64 (t28 + 1))) else
  (impl_goodGroup.l10 g (!(decide (r.1 = 1))) t26 t27 (w64 (t28 + 1)))) :=
  (fixP_eq impl_goodGroup.E impl_goodGroup.T impl_goodGroup.C impl_goodGroup.K 19 impl_goodGroup.D19 (g, changes, r, t26, t27, t28)).trans (by kernel_rfl)
theorem impl_goodGroup.f_eq (g : Int × Int × List (Int × ByteArray)) : impl_goodGroup.f g =
  ((impl_in.f g.1 0 999).bind fun y25 =>
  bif (!y25) then (some false) else
  ((impl_in.f g.2.1 0 999).bind fun y26 =>
   bif (!y26) then (some false) else
   ((impl_in.f (g.2.2.length : Int) 1 80).bind fun y27 =>
    bif (!y27) then (some false) else
    (impl_goodGroup.l7 g)))) := by kernel_rfl
noncomputable def impl_goodGroup.S : Abs.Sum := ⟨impl_goodGroup.P, impl_goodGroup.R, fun _ => Fn impl_goodGroup.E impl_goodGroup.T impl_goodGroup.C impl_goodGroup.P impl_goodGroup.R impl_goodGroup.X⟩
theorem impl_goodGroup.meets : Meets Tryz.prog 42 impl_goodGroup.S := meets_tab (S := impl_goodGroup.U) tabOk_all (AllMeets.cons impl_in.meets (AllMeets.cons impl_isLine.meets (AllMeets.cons impl_Group_old.meets (AllMeets.cons impl_Group_fresh.meets (AllMeets.cons impl_goodLines.meets AllMeets.nil))))) (AllStill.cons (fun _ _ _ => rfl) (AllStill.cons (fun _ _ _ => rfl) (AllStill.cons (fun _ _ _ => rfl) (AllStill.cons (fun _ _ _ => rfl) (AllStill.cons (fun _ _ _ => rfl) AllStill.nil))))) follows (by kernel_rfl : Tryz.prog.funcs[42]? = some Tryz.f42) (by kernel_rfl) (by kernel_rfl) (by kernel_rfl)
noncomputable def impl_goodGroups.C : Code := Tryz.f27.body.getD .skip
def impl_goodGroups.P : Par := (.cons (.val (.list (.pair (.int .i64) (.pair (.int .i64) (.one (.list (.pair (.int .i64) (.one .str)))))))) .nil)
noncomputable def impl_goodGroups.U : SumTab := [(42, [], impl_goodGroup.S), (30, [], impl_Group_old.S), (31, [], impl_Group_fresh.S)]
noncomputable def impl_goodGroups.E : Env := mkEnv TY AR impl_goodGroups.U
def impl_goodGroups.D8 : CutD := ⟨[0, 8, 9, 10], (.cons (.val (.list (.pair (.int .i64) (.pair (.int .i64) (.one (.list (.pair (.int .i64) (.one .str)))))))) (.cons (.val (.list (.pair (.int .i64) (.pair (.int .i64) (.one (.list (.pair (.int .i64) (.one .str)))))))) (.cons (.val (.int .i64)) (.cons (.val (.int .i64)) .nil))))⟩
noncomputable def impl_goodGroups.T : Tab := fun k => look k [(8, impl_goodGroups.D8)]
def impl_goodGroups.R : List (Nat × Ty) := [(0, .bool)]
def impl_goodGroups.X : List ResultVar := [.tmp 2]
noncomputable def impl_goodGroups.K := fin impl_goodGroups.E ⟨impl_goodGroups.P, impl_goodGroups.R, fun _ _ => none⟩ impl_goodGroups.X impl_goodGroups.P.len 0
noncomputable def impl_goodGroups.l8 (g : List (Int × Int × List (Int × ByteArray))) (t8 : List (Int × Int × List (Int × ByteArray))) (t9 : Int) (t10 : Int) : Option (Bool) := fixP impl_goodGroups.E impl_goodGroups.T impl_goodGroups.C impl_goodGroups.K 8 impl_goodGroups.D8 (g, t8, t9, t10)
noncomputable def impl_goodGroups.f (g : List (Int × Int × List (Int × ByteArray))) : Option (Bool) := Fn impl_goodGroups.E impl_goodGroups.T impl_goodGroups.C impl_goodGroups.P impl_goodGroups.R impl_goodGroups.X g
theorem impl_goodGroups.l8_eq (g : List (Int × Int × List (Int × ByteArray))) (t8 : List (Int × Int × List (Int × ByteArray))) (t9 : Int) (t10 : Int) : impl_goodGroups.l8 g t8 t9 t10 =
  (bif (decide (t10 < t9)) then (bif ((decide (0 ≤ t10)) && (decide (t10 < (t8.length : Int)))) then ((impl_goodGroup.f (t8.getD (t10).toNat (0, 0, ([] : List (Int × ByteArray))))).bind fun y25 =>
    bif (!y25) then (some false) else
    (bif (decide (t10 > 0)) then (bif ((decide (0 ≤ (w64 (t10 - 1)))) && (decide ((w64 (t10 - 1)) < (g.length : Int)))) then (bif ((decide (0 ≤ (w64 (t10 - 1)))) && (decide ((w64 (t10 - 1)) < (g.length : Int)))) then ((impl_Group_old.f (g.getD ((w64 (t10 - 1))).toNat (0, 0, ([] : List (Int × ByteArray))))).bind fun y26 =>
        bif (decide ((t8.getD (t10).toNat (0, 0, ([] : List (Int × ByteArray)))).1 < (w64 ((g.getD ((w64 (t10 - 1))).toNat (0, 0, ([] : List (Int × ByteArray)))).1 + (y26.length : Int))))) then (some false) else
        (bif ((decide (0 ≤ (w64 (t10 - 1)))) && (decide ((w64 (t10 - 1)) < (g.length : Int)))) then (bif ((decide (0 ≤ (w64 (t10 - 1)))) && (decide ((w64 (t10 - 1)) < (g.length : Int)))) then ((impl_Group_fresh.f (g.getD ((w64 (t10 - 1))).toNat (0, 0, ([] : List (Int × ByteArray))))).bind fun y27 =>
           bif (decide ((t8.getD (t10).toNat (0, 0, ([] : List (Int × ByteArray)))).2.1 < (w64 ((g.getD ((w64 (t10 - 1))).toNat (0, 0, ([] : List (Int × ByteArray)))).2.1 + (y27.length : Int))))) then (some false) else
           (impl_goodGroups.l8 g t8 t9 (w64 (t10 + 1)))) else none) else none)) else none) else none) else
     (impl_goodGroups.l8 g t8 t9 (w64 (t10 + 1))))) else none) else (some true)) :=
  (fixP_eq impl_goodGroups.E impl_goodGroups.T impl_goodGroups.C impl_goodGroups.K 8 impl_goodGroups.D8 (g, t8, t9, t10)).trans (by kernel_rfl)
theorem impl_goodGroups.f_eq (g : List (Int × Int × List (Int × ByteArray))) : impl_goodGroups.f g =
  (bif (decide ((g.length : Int) > 20)) then (some false) else
  (impl_goodGroups.l8 g g (g.length : Int) 0)) := by kernel_rfl
noncomputable def impl_goodGroups.S : Abs.Sum := ⟨impl_goodGroups.P, impl_goodGroups.R, fun _ => Fn impl_goodGroups.E impl_goodGroups.T impl_goodGroups.C impl_goodGroups.P impl_goodGroups.R impl_goodGroups.X⟩
theorem impl_goodGroups.meets : Meets Tryz.prog 27 impl_goodGroups.S := meets_tab (S := impl_goodGroups.U) tabOk_all (AllMeets.cons impl_goodGroup.meets (AllMeets.cons impl_Group_old.meets (AllMeets.cons impl_Group_fresh.meets AllMeets.nil))) (AllStill.cons (fun _ _ _ => rfl) (AllStill.cons (fun _ _ _ => rfl) (AllStill.cons (fun _ _ _ => rfl) AllStill.nil))) follows (by kernel_rfl : Tryz.prog.funcs[27]? = some Tryz.f27) (by kernel_rfl) (by kernel_rfl) (by kernel_rfl)
noncomputable def impl_isFar.C : Code := Tryz.f28.body.getD .skip
def impl_isFar.P : Par := (.cons (.val (.int .i64)) .nil)
noncomputable def impl_isFar.U : SumTab := [(59, [], impl_in.S)]
noncomputable def impl_isFar.E : Env := mkEnv TY AR impl_isFar.U
noncomputable def impl_isFar.T : Tab := fun k => look k []
def impl_isFar.R : List (Nat × Ty) := [(0, .bool)]
def impl_isFar.X : List ResultVar := [.tmp 2]
noncomputable def impl_isFar.f (far : Int) : Option (Bool) := Fn impl_isFar.E impl_isFar.T impl_isFar.C impl_isFar.P impl_isFar.R impl_isFar.X far
theorem impl_isFar.f_eq (far : Int) : impl_isFar.f far =
  ((impl_in.f far 0 40).bind fun y25 =>
  some y25) := by kernel_rfl
noncomputable def impl_isFar.S : Abs.Sum := ⟨impl_isFar.P, impl_isFar.R, fun _ => Fn impl_isFar.E impl_isFar.T impl_isFar.C impl_isFar.P impl_isFar.R impl_isFar.X⟩
theorem impl_isFar.meets : Meets Tryz.prog 28 impl_isFar.S := meets_tab (S := impl_isFar.U) tabOk_all (AllMeets.cons impl_in.meets AllMeets.nil) (AllStill.cons (fun _ _ _ => rfl) AllStill.nil) follows (by kernel_rfl : Tryz.prog.funcs[28]? = some Tryz.f28) (by kernel_rfl) (by kernel_rfl) (by kernel_rfl)
noncomputable def slices_Equal_Lstring_string.C : Code := Tryz.f67.body.getD .skip
def slices_Equal_Lstring_string.P : Par := (.cons (.val (.list .str)) (.cons (.val (.list .str)) .nil))
noncomputable def slices_Equal_Lstring_string.U : SumTab := []
noncomputable def slices_Equal_Lstring_string.E : Env := mkEnv TY AR slices_Equal_Lstring_string.U
def slices_Equal_Lstring_string.D8 : CutD := ⟨[0, 1, 12, 13], (.cons (.val (.list .str)) (.cons (.val (.list .str)) (.cons (.val (.int .i64)) (.cons (.val (.int .i64)) .nil))))⟩
noncomputable def slices_Equal_Lstring_string.T : Tab := fun k => look k [(8, slices_Equal_Lstring_string.D8)]
def slices_Equal_Lstring_string.R : List (Nat × Ty) := [(0, .bool)]
def slices_Equal_Lstring_string.X : List ResultVar := [.tmp 4]
noncomputable def slices_Equal_Lstring_string.K := fin slices_Equal_Lstring_string.E ⟨slices_Equal_Lstring_string.P, slices_Equal_Lstring_string.R, fun _ _ => none⟩ slices_Equal_Lstring_string.X slices_Equal_Lstring_string.P.len 0
noncomputable def slices_Equal_Lstring_string.l8 (s1 : List ByteArray) (s2 : List ByteArray) (t12 : Int) (t13 : Int) : Option (Bool) := fixP slices_Equal_Lstring_string.E slices_Equal_Lstring_string.T slices_Equal_Lstring_string.C slices_Equal_Lstring_string.K 8 slices_Equal_Lstring_string.D8 (s1, s2, t12, t13)
noncomputable def slices_Equal_Lstring_string.f (s1 : List ByteArray) (s2 : List ByteArray) : Option (Bool) := Fn slices_Equal_Lstring_string.E slices_Equal_Lstring_string.T slices_Equal_Lstring_string.C slices_Equal_Lstring_string.P slices_Equal_Lstring_string.R slices_Equal_Lstring_string.X (s1, s2)
theorem slices_Equal_Lstring_string.l8_eq (s1 : List ByteArray) (s2 : List ByteArray) (t12 : Int) (t13 : Int) : slices_Equal_Lstring_string.l8 s1 s2 t12 t13 =
  (bif (decide (t13 < t12)) then (bif ((decide (0 ≤ t13)) && (decide (t13 < (s1.length : Int)))) then (bif ((decide (0 ≤ t13)) && (decide (t13 < (s2.length : Int)))) then (bif (!((s1.getD (t13).toNat em).toList == (s2.getD (t13).toNat em).toList)) then (some false) else
     (slices_Equal_Lstring_string.l8 s1 s2 t12 (w64 (t13 + 1)))) else none) else none) else (some true)) :=
  (fixP_eq slices_Equal_Lstring_string.E slices_Equal_Lstring_string.T slices_Equal_Lstring_string.C slices_Equal_Lstring_string.K 8 slices_Equal_Lstring_string.D8 (s1, s2, t12, t13)).trans (by kernel_rfl)
theorem slices_Equal_Lstring_string.f_eq (s1 : List ByteArray) (s2 : List ByteArray) : slices_Equal_Lstring_string.f s1 s2 =
  (bif (!(decide ((s1.length : Int) = (s2.length : Int)))) then (some false) else
  (slices_Equal_Lstring_string.l8 s1 s2 (s1.length : Int) 0)) := by kernel_rfl
noncomputable def slices_Equal_Lstring_string.S : Abs.Sum := ⟨slices_Equal_Lstring_string.P, slices_Equal_Lstring_string.R, fun _ => Fn slices_Equal_Lstring_string.E slices_Equal_Lstring_string.T slices_Equal_Lstring_string.C slices_Equal_Lstring_string.P slices_Equal_Lstring_string.R slices_Equal_Lstring_string.X⟩
theorem slices_Equal_Lstring_string.meets : Meets Tryz.prog 67 slices_Equal_Lstring_string.S := meets_tab (S := slices_Equal_Lstring_string.U) tabOk_all AllMeets.nil AllStill.nil follows (by kernel_rfl : Tryz.prog.funcs[67]? = some Tryz.f67) (by kernel_rfl) (by kernel_rfl) (by kernel_rfl)
noncomputable def impl_stands.C : Code := Tryz.f44.body.getD .skip
def impl_stands.P : Par := (.cons (.val (.list .str)) (.cons (.val (.list .str)) (.cons (.val (.int .i64)) .nil)))
noncomputable def impl_stands.U : SumTab := [(59, [], impl_in.S), (67, [], slices_Equal_Lstring_string.S)]
noncomputable def impl_stands.E : Env := mkEnv TY AR impl_stands.U
noncomputable def impl_stands.T : Tab := fun k => look k []
def impl_stands.R : List (Nat × Ty) := [(0, .bool)]
def impl_stands.X : List ResultVar := [.tmp 6]
noncomputable def impl_stands.f (l : List ByteArray) (part : List ByteArray) (t2 : Int) : Option (Bool) := Fn impl_stands.E impl_stands.T impl_stands.C impl_stands.P impl_stands.R impl_stands.X (l, part, t2)
theorem impl_stands.f_eq (l : List ByteArray) (part : List ByteArray) (t2 : Int) : impl_stands.f l part t2 =
  ((impl_in.f t2 0 (w64 ((l.length : Int) - (part.length : Int)))).bind fun y25 =>
  bif y25 then (bif ((decide (0 ≤ t2)) && ((decide (t2 ≤ (w64 (t2 + (part.length : Int))))) && (decide ((w64 (t2 + (part.length : Int))) ≤ (l.length : Int))))) then ((slices_Equal_Lstring_string.f ((l.take ((w64 (t2 + (part.length : Int)))).toNat).drop (t2).toNat) part).bind fun y26 =>
    some y26) else none) else (some false)) := by kernel_rfl
noncomputable def impl_stands.S : Abs.Sum := ⟨impl_stands.P, impl_stands.R, fun _ => Fn impl_stands.E impl_stands.T impl_stands.C impl_stands.P impl_stands.R impl_stands.X⟩
theorem impl_stands.meets : Meets Tryz.prog 44 impl_stands.S := meets_tab (S := impl_stands.U) tabOk_all (AllMeets.cons impl_in.meets (AllMeets.cons slices_Equal_Lstring_string.meets AllMeets.nil)) (AllStill.cons (fun _ _ _ => rfl) (AllStill.cons (fun _ _ _ => rfl) AllStill.nil)) follows (by kernel_rfl : Tryz.prog.funcs[44]? = some Tryz.f44) (by kernel_rfl) (by kernel_rfl) (by kernel_rfl)
noncomputable def impl_near.C : Code := Tryz.f32.body.getD .skip
def impl_near.P : Par := (.cons (.val (.list .str)) (.cons (.val (.list .str)) (.cons (.val (.int .i64)) (.cons (.val (.int .i64)) .nil))))
noncomputable def impl_near.U : SumTab := [(44, [], impl_stands.S)]
noncomputable def impl_near.E : Env := mkEnv TY AR impl_near.U
def impl_near.D4 : CutD := ⟨[0, 1, 2, 11, 12], (.cons (.val (.list .str)) (.cons (.val (.list .str)) (.cons (.val (.int .i64)) (.cons (.val (.int .i64)) (.cons (.val (.int .i64)) .nil)))))⟩
noncomputable def impl_near.T : Tab := fun k => look k [(4, impl_near.D4)]
def impl_near.R : List (Nat × Ty) := [(0, .int .i64)]
def impl_near.X : List ResultVar := [.tmp 8]
noncomputable def impl_near.K := fin impl_near.E ⟨impl_near.P, impl_near.R, fun _ _ => none⟩ impl_near.X impl_near.P.len 0
noncomputable def impl_near.l4 (l : List ByteArray) (part : List ByteArray) (t2 : Int) (t11 : Int) (t12 : Int) : Option (Int) := fixP impl_near.E impl_near.T impl_near.C impl_near.K 4 impl_near.D4 (l, part, t2, t11, t12)
noncomputable def impl_near.f (l : List ByteArray) (part : List ByteArray) (t2 : Int) (far : Int) : Option (Int) := Fn impl_near.E impl_near.T impl_near.C impl_near.P impl_near.R impl_near.X (l, part, t2, far)
theorem impl_near.l4_eq (l : List ByteArray) (part : List ByteArray) (t2 : Int) (t11 : Int) (t12 : Int) : impl_near.l4 l part t2 t11 t12 =
  (bif (decide (t12 < t11)) then ((impl_stands.f l part (w64 (t2 - t12))).bind fun y25 =>
   bif y25 then (some (w64 (t2 - t12))) else
   ((impl_stands.f l part (w64 (t2 + t12))).bind fun y26 =>
    bif y26 then (some (w64 (t2 + t12))) else
    (impl_near.l4 l part t2 t11 (w64 (t12 + 1))))) else (some (-1))) :=
  (fixP_eq impl_near.E impl_near.T impl_near.C impl_near.K 4 impl_near.D4 (l, part, t2, t11, t12)).trans (by kernel_rfl)
theorem impl_near.f_eq (l : List ByteArray) (part : List ByteArray) (t2 : Int) (far : Int) : impl_near.f l part t2 far =
  (impl_near.l4 l part t2 (w64 (far + 1)) 0) := by kernel_rfl
noncomputable def impl_near.S : Abs.Sum := ⟨impl_near.P, impl_near.R, fun _ => Fn impl_near.E impl_near.T impl_near.C impl_near.P impl_near.R impl_near.X⟩
theorem impl_near.meets : Meets Tryz.prog 32 impl_near.S := meets_tab (S := impl_near.U) tabOk_all (AllMeets.cons impl_stands.meets AllMeets.nil) (AllStill.cons (fun _ _ _ => rfl) AllStill.nil) follows (by kernel_rfl : Tryz.prog.funcs[32]? = some Tryz.f32) (by kernel_rfl) (by kernel_rfl) (by kernel_rfl)
noncomputable def impl_ApplyNear.C : Code := Tryz.f6.body.getD .skip
def impl_ApplyNear.P : Par := (.cons (.val (.list .str)) (.cons (.val (.list (.pair (.int .i64) (.pair (.int .i64) (.one (.list (.pair (.int .i64) (.one .str)))))))) (.cons (.val (.int .i64)) .nil)))
noncomputable def impl_ApplyNear.U : SumTab := [(26, [], impl_goodLines.S), (27, [], impl_goodGroups.S), (28, [], impl_isFar.S), (29, [], slices_Clone_Lstring_string.S), (30, [], impl_Group_old.S), (31, [], impl_Group_fresh.S), (32, [], impl_near.S), (33, [], slices_Replace_Lstring_string.S)]
noncomputable def impl_ApplyNear.E : Env := mkEnv TY AR impl_ApplyNear.U
def impl_ApplyNear.D7 : CutD := ⟨[0, 1, 2], (.cons (.val (.list .str)) (.cons (.val (.list (.pair (.int .i64) (.pair (.int .i64) (.one (.list (.pair (.int .i64) (.one .str)))))))) (.cons (.val (.int .i64)) .nil)))⟩
def impl_ApplyNear.D10 : CutD := ⟨[2, 10, 11, 12, 34, 35, 36], (.cons (.val (.int .i64)) (.cons (.own 8 .str) (.cons (.own 9 (.int .i64)) (.cons (.val (.int .i64)) (.cons (.val (.list (.pair (.int .i64) (.pair (.int .i64) (.one (.list (.pair (.int .i64) (.one .str)))))))) (.cons (.val (.int .i64)) (.cons (.val (.int .i64)) .nil)))))))⟩
noncomputable def impl_ApplyNear.T : Tab := fun k => look k [(7, impl_ApplyNear.D7), (10, impl_ApplyNear.D10)]
def impl_ApplyNear.R : List (Nat × Ty) := [(9, .list .str), (9, .list (.int .i64)), (0, .int .i64), (0, .bool)]
def impl_ApplyNear.X : List ResultVar := [.tmp 6, .tmp 7, .tmp 8, .tmp 9]
noncomputable def impl_ApplyNear.K := fin impl_ApplyNear.E ⟨impl_ApplyNear.P, impl_ApplyNear.R, fun _ _ => none⟩ impl_ApplyNear.X impl_ApplyNear.P.len 0
noncomputable def impl_ApplyNear.l7 (l : List ByteArray) (g : List (Int × Int × List (Int × ByteArray))) (far : Int) : Option ((List ByteArray) × (List Int) × Int × Bool) := fixP impl_ApplyNear.E impl_ApplyNear.T impl_ApplyNear.C impl_ApplyNear.K 7 impl_ApplyNear.D7 (l, g, far)
noncomputable def impl_ApplyNear.l10 (far : Int) (out : List ByteArray) (places : List Int) (t12 : Int) (t34 : List (Int × Int × List (Int × ByteArray))) (t35 : Int) (t36 : Int) : Option ((List ByteArray) × (List Int) × Int × Bool) := fixP impl_ApplyNear.E impl_ApplyNear.T impl_ApplyNear.C impl_ApplyNear.K 10 impl_ApplyNear.D10 (far, out, places, t12, t34, t35, t36)
noncomputable def impl_ApplyNear.f (l : List ByteArray) (g : List (Int × Int × List (Int × ByteArray))) (far : Int) : Option ((List ByteArray) × (List Int) × Int × Bool) := Fn impl_ApplyNear.E impl_ApplyNear.T impl_ApplyNear.C impl_ApplyNear.P impl_ApplyNear.R impl_ApplyNear.X (l, g, far)
theorem impl_ApplyNear.l7_eq (l : List ByteArray) (g : List (Int × Int × List (Int × ByteArray))) (far : Int) : impl_ApplyNear.l7 l g far =
  ((slices_Clone_Lstring_string.f l).bind fun y25 =>
  impl_ApplyNear.l10 far y25 ([] : List Int) 0 g (g.length : Int) 0) :=
  (fixP_eq impl_ApplyNear.E impl_ApplyNear.T impl_ApplyNear.C impl_ApplyNear.K 7 impl_ApplyNear.D7 (l, g, far)).trans (by kernel_rfl)
theorem impl_ApplyNear.l10_eq (far : Int) (out : List ByteArray) (places : List Int) (t12 : Int) (t34 : List (Int × Int × List (Int × ByteArray))) (t35 : Int) (t36 : Int) : impl_ApplyNear.l10 far out places t12 t34 t35 t36 =
  (bif (decide (t36 < t35)) then (bif ((decide (0 ≤ t36)) && (decide (t36 < (t34.length : Int)))) then ((impl_Group_old.f (t34.getD (t36).toNat (0, 0, ([] : List (Int × ByteArray))))).bind fun y25 =>
    (impl_Group_fresh.f (t34.getD (t36).toNat (0, 0, ([] : List (Int × ByteArray))))).bind fun y26 =>
    (impl_near.f out y25 (w64 ((t34.getD (t36).toNat (0, 0, ([] : List (Int × ByteArray)))).1 + t12)) far).bind fun y27 =>
    bif (decide (y27 < 0)) then (some (([] : List ByteArray), ([] : List Int), 2, true)) else
    ((slices_Replace_Lstring_string.f out y27 (w64 (y27 + (y25.length : Int))) y26).bind fun y28 =>
     bif (decide ((places.length + [y27].length) ≤ room 8)) then (impl_ApplyNear.l10 far y28 (places ++ [y27]) (w64 ((w64 ((w64 (y27 - (t34.getD (t36).toNat (0, 0, ([] : List (Int × ByteArray)))).1)) + (y26.length : Int))) - (y25.length : Int))) t34 t35 (w64 (t36 + 1))) else none)) else none) else
  ((impl_goodLines.f out).bind fun y25 =>
   bif (!y25) then (some (([] : List ByteArray), ([] : List Int), 2, true)) else (some (out, places, 0, true)))) :=
  (fixP_eq impl_ApplyNear.E impl_ApplyNear.T impl_ApplyNear.C impl_ApplyNear.K 10 impl_ApplyNear.D10 (far, out, places, t12, t34, t35, t36)).trans (by kernel_rfl)
theorem impl_ApplyNear.f_eq (l : List ByteArray) (g : List (Int × Int × List (Int × ByteArray))) (far : Int) : impl_ApplyNear.f l g far =
  ((impl_goodLines.f l).bind fun y25 =>
  bif (!y25) then (some (([] : List ByteArray), ([] : List Int), 0, false)) else
  ((impl_goodGroups.f g).bind fun y26 =>
   bif (!y26) then (some (([] : List ByteArray), ([] : List Int), 0, false)) else
   ((impl_isFar.f far).bind fun y27 =>
    bif (!y27) then (some (([] : List ByteArray), ([] : List Int), 0, false)) else
    (impl_ApplyNear.l7 l g far)))) := by kernel_rfl
noncomputable def impl_ApplyNear.S : Abs.Sum := ⟨impl_ApplyNear.P, impl_ApplyNear.R, fun _ => Fn impl_ApplyNear.E impl_ApplyNear.T impl_ApplyNear.C impl_ApplyNear.P impl_ApplyNear.R impl_ApplyNear.X⟩
theorem impl_ApplyNear.meets : Meets Tryz.prog 6 impl_ApplyNear.S := meets_tab (S := impl_ApplyNear.U) tabOk_all (AllMeets.cons impl_goodLines.meets (AllMeets.cons impl_goodGroups.meets (AllMeets.cons impl_isFar.meets (AllMeets.cons slices_Clone_Lstring_string.meets (AllMeets.cons impl_Group_old.meets (AllMeets.cons impl_Group_fresh.meets (AllMeets.cons impl_near.meets (AllMeets.cons slices_Replace_Lstring_string.meets AllMeets.nil)))))))) (AllStill.cons (fun _ _ _ => rfl) (AllStill.cons (fun _ _ _ => rfl) (AllStill.cons (fun _ _ _ => rfl) (AllStill.cons (fun _ _ _ => rfl) (AllStill.cons (fun _ _ _ => rfl) (AllStill.cons (fun _ _ _ => rfl) (AllStill.cons (fun _ _ _ => rfl) (AllStill.cons (fun _ _ _ => rfl) AllStill.nil)))))))) follows (by kernel_rfl : Tryz.prog.funcs[6]? = some Tryz.f6) (by kernel_rfl) (by kernel_rfl) (by kernel_rfl)
noncomputable def spec_l6Old.C : Code := Tryz.f37.body.getD .skip
def spec_l6Old.P : Par := (.cons (.val (.pair (.int .i64) (.pair (.int .i64) (.one (.list (.pair (.int .i64) (.one .str))))))) .nil)
noncomputable def spec_l6Old.U : SumTab := []
noncomputable def spec_l6Old.E : Env := mkEnv TY AR spec_l6Old.U
def spec_l6Old.D6 : CutD := ⟨[3, 7, 8, 9], (.cons (.own 9 .str) (.cons (.val (.list (.pair (.int .i64) (.one .str)))) (.cons (.val (.int .i64)) (.cons (.val (.int .i64)) .nil))))⟩
noncomputable def spec_l6Old.T : Tab := fun k => look k [(6, spec_l6Old.D6)]
def spec_l6Old.R : List (Nat × Ty) := [(9, .list .str)]
def spec_l6Old.X : List ResultVar := [.tmp 2]
noncomputable def spec_l6Old.K := fin spec_l6Old.E ⟨spec_l6Old.P, spec_l6Old.R, fun _ _ => none⟩ spec_l6Old.X spec_l6Old.P.len 0
noncomputable def spec_l6Old.l6 (out : List ByteArray) (t7 : List (Int × ByteArray)) (t8 : Int) (t9 : Int) : Option ((List ByteArray)) := fixP spec_l6Old.E spec_l6Old.T spec_l6Old.C spec_l6Old.K 6 spec_l6Old.D6 (out, t7, t8, t9)
noncomputable def spec_l6Old.f (g : Int × Int × List (Int × ByteArray)) : Option ((List ByteArray)) := Fn spec_l6Old.E spec_l6Old.T spec_l6Old.C spec_l6Old.P spec_l6Old.R spec_l6Old.X g
theorem spec_l6Old.l6_eq (out : List ByteArray) (t7 : List (Int × ByteArray)) (t8 : Int) (t9 : Int) : spec_l6Old.l6 out t7 t8 t9 =
  (bif (decide (t9 < t8)) then (bif ((decide (0 ≤ t9)) && (decide (t9 < (t7.length : Int)))) then (bif (!(decide ((t7.getD (t9).toNat (0, em)).1 = 3))) then (bif (decide ((out.length + [(t7.getD (t9).toNat (0, em)).2].length) ≤ room 16)) then (spec_l6Old.l6 (out ++ [(t7.getD (t9).toNat (0, em)).2]) t7 t8 (w64 (t9 + 1))) else none) else
    (spec_l6Old.l6 out t7 t8 (w64 (t9 + 1)))) else none) else (some out)) :=
  (fixP_eq spec_l6Old.E spec_l6Old.T spec_l6Old.C spec_l6Old.K 6 spec_l6Old.D6 (out, t7, t8, t9)).trans (by kernel_rfl)
theorem spec_l6Old.f_eq (g : Int × Int × List (Int × ByteArray)) : spec_l6Old.f g =
  (spec_l6Old.l6 ([] : List ByteArray) g.2.2 (g.2.2.length : Int) 0) := by kernel_rfl
noncomputable def spec_l6Old.S : Abs.Sum := ⟨spec_l6Old.P, spec_l6Old.R, fun _ => Fn spec_l6Old.E spec_l6Old.T spec_l6Old.C spec_l6Old.P spec_l6Old.R spec_l6Old.X⟩
theorem spec_l6Old.meets : Meets Tryz.prog 37 spec_l6Old.S := meets_tab (S := spec_l6Old.U) tabOk_all AllMeets.nil AllStill.nil follows (by kernel_rfl : Tryz.prog.funcs[37]? = some Tryz.f37) (by kernel_rfl) (by kernel_rfl) (by kernel_rfl)
noncomputable def spec_l6New.C : Code := Tryz.f39.body.getD .skip
def spec_l6New.P : Par := (.cons (.val (.pair (.int .i64) (.pair (.int .i64) (.one (.list (.pair (.int .i64) (.one .str))))))) .nil)
noncomputable def spec_l6New.U : SumTab := []
noncomputable def spec_l6New.E : Env := mkEnv TY AR spec_l6New.U
def spec_l6New.D6 : CutD := ⟨[3, 7, 8, 9], (.cons (.own 9 .str) (.cons (.val (.list (.pair (.int .i64) (.one .str)))) (.cons (.val (.int .i64)) (.cons (.val (.int .i64)) .nil))))⟩
noncomputable def spec_l6New.T : Tab := fun k => look k [(6, spec_l6New.D6)]
def spec_l6New.R : List (Nat × Ty) := [(9, .list .str)]
def spec_l6New.X : List ResultVar := [.tmp 2]
noncomputable def spec_l6New.K := fin spec_l6New.E ⟨spec_l6New.P, spec_l6New.R, fun _ _ => none⟩ spec_l6New.X spec_l6New.P.len 0
noncomputable def spec_l6New.l6 (out : List ByteArray) (t7 : List (Int × ByteArray)) (t8 : Int) (t9 : Int) : Option ((List ByteArray)) := fixP spec_l6New.E spec_l6New.T spec_l6New.C spec_l6New.K 6 spec_l6New.D6 (out, t7, t8, t9)
noncomputable def spec_l6New.f (g : Int × Int × List (Int × ByteArray)) : Option ((List ByteArray)) := Fn spec_l6New.E spec_l6New.T spec_l6New.C spec_l6New.P spec_l6New.R spec_l6New.X g
theorem spec_l6New.l6_eq (out : List ByteArray) (t7 : List (Int × ByteArray)) (t8 : Int) (t9 : Int) : spec_l6New.l6 out t7 t8 t9 =
  (bif (decide (t9 < t8)) then (bif ((decide (0 ≤ t9)) && (decide (t9 < (t7.length : Int)))) then (bif (!(decide ((t7.getD (t9).toNat (0, em)).1 = 2))) then (bif (decide ((out.length + [(t7.getD (t9).toNat (0, em)).2].length) ≤ room 16)) then (spec_l6New.l6 (out ++ [(t7.getD (t9).toNat (0, em)).2]) t7 t8 (w64 (t9 + 1))) else none) else
    (spec_l6New.l6 out t7 t8 (w64 (t9 + 1)))) else none) else (some out)) :=
  (fixP_eq spec_l6New.E spec_l6New.T spec_l6New.C spec_l6New.K 6 spec_l6New.D6 (out, t7, t8, t9)).trans (by kernel_rfl)
theorem spec_l6New.f_eq (g : Int × Int × List (Int × ByteArray)) : spec_l6New.f g =
  (spec_l6New.l6 ([] : List ByteArray) g.2.2 (g.2.2.length : Int) 0) := by kernel_rfl
noncomputable def spec_l6New.S : Abs.Sum := ⟨spec_l6New.P, spec_l6New.R, fun _ => Fn spec_l6New.E spec_l6New.T spec_l6New.C spec_l6New.P spec_l6New.R spec_l6New.X⟩
theorem spec_l6New.meets : Meets Tryz.prog 39 spec_l6New.S := meets_tab (S := spec_l6New.U) tabOk_all AllMeets.nil AllStill.nil follows (by kernel_rfl : Tryz.prog.funcs[39]? = some Tryz.f39) (by kernel_rfl) (by kernel_rfl) (by kernel_rfl)
noncomputable def spec_l5Lines.C : Code := Tryz.f72.body.getD .skip
def spec_l5Lines.P : Par := (.cons (.val (.list .str)) .nil)
noncomputable def spec_l5Lines.U : SumTab := [(51, [], spec_l1Line.S), (57, [], spec_l1Ends.S)]
noncomputable def spec_l5Lines.E : Env := mkEnv TY AR spec_l5Lines.U
def spec_l5Lines.D4 : CutD := ⟨[0, 5, 6, 7], (.cons (.val (.list .str)) (.cons (.val (.list .str)) (.cons (.val (.int .i64)) (.cons (.val (.int .i64)) .nil))))⟩
noncomputable def spec_l5Lines.T : Tab := fun k => look k [(4, spec_l5Lines.D4)]
def spec_l5Lines.R : List (Nat × Ty) := [(0, .bool)]
def spec_l5Lines.X : List ResultVar := [.tmp 2]
noncomputable def spec_l5Lines.K := fin spec_l5Lines.E ⟨spec_l5Lines.P, spec_l5Lines.R, fun _ _ => none⟩ spec_l5Lines.X spec_l5Lines.P.len 0
noncomputable def spec_l5Lines.l4 (l : List ByteArray) (t5 : List ByteArray) (t6 : Int) (t7 : Int) : Option (Bool) := fixP spec_l5Lines.E spec_l5Lines.T spec_l5Lines.C spec_l5Lines.K 4 spec_l5Lines.D4 (l, t5, t6, t7)
noncomputable def spec_l5Lines.f (l : List ByteArray) : Option (Bool) := Fn spec_l5Lines.E spec_l5Lines.T spec_l5Lines.C spec_l5Lines.P spec_l5Lines.R spec_l5Lines.X l
theorem spec_l5Lines.l4_eq (l : List ByteArray) (t5 : List ByteArray) (t6 : Int) (t7 : Int) : spec_l5Lines.l4 l t5 t6 t7 =
  (bif (decide (t7 < t6)) then (bif ((decide (0 ≤ t7)) && (decide (t7 < (t5.length : Int)))) then ((spec_l1Line.f (t5.getD (t7).toNat em)).bind fun y25 =>
    bif (!y25) then (some false) else
    (bif (decide (t7 < (w64 ((l.length : Int) - 1)))) then ((spec_l1Ends.f (t5.getD (t7).toNat em)).bind fun y26 =>
      bif (!y26) then (some false) else
      (spec_l5Lines.l4 l t5 t6 (w64 (t7 + 1)))) else
     (spec_l5Lines.l4 l t5 t6 (w64 (t7 + 1))))) else none) else (some (decide ((l.length : Int) ≤ 40)))) :=
  (fixP_eq spec_l5Lines.E spec_l5Lines.T spec_l5Lines.C spec_l5Lines.K 4 spec_l5Lines.D4 (l, t5, t6, t7)).trans (by kernel_rfl)
theorem spec_l5Lines.f_eq (l : List ByteArray) : spec_l5Lines.f l =
  (spec_l5Lines.l4 l l (l.length : Int) 0) := by kernel_rfl
noncomputable def spec_l5Lines.S : Abs.Sum := ⟨spec_l5Lines.P, spec_l5Lines.R, fun _ => Fn spec_l5Lines.E spec_l5Lines.T spec_l5Lines.C spec_l5Lines.P spec_l5Lines.R spec_l5Lines.X⟩
theorem spec_l5Lines.meets : Meets Tryz.prog 72 spec_l5Lines.S := meets_tab (S := spec_l5Lines.U) tabOk_all (AllMeets.cons spec_l1Line.meets (AllMeets.cons spec_l1Ends.meets AllMeets.nil)) (AllStill.cons (fun _ _ _ => rfl) (AllStill.cons (fun _ _ _ => rfl) AllStill.nil)) follows (by kernel_rfl : Tryz.prog.funcs[72]? = some Tryz.f72) (by kernel_rfl) (by kernel_rfl) (by kernel_rfl)
noncomputable def spec_l6Group.C : Code := Tryz.f43.body.getD .skip
def spec_l6Group.P : Par := (.cons (.val (.pair (.int .i64) (.pair (.int .i64) (.one (.list (.pair (.int .i64) (.one .str))))))) .nil)
noncomputable def spec_l6Group.U : SumTab := [(35, [], spec_l1In.S), (51, [], spec_l1Line.S), (37, [], spec_l6Old.S), (39, [], spec_l6New.S), (72, [], spec_l5Lines.S)]
noncomputable def spec_l6Group.E : Env := mkEnv TY AR spec_l6Group.U
def spec_l6Group.D6 : CutD := ⟨[1, 3, 7, 8, 9], (.cons (.box 0 (.pair (.int .i64) (.pair (.int .i64) (.one (.list (.pair (.int .i64) (.one .str))))))) (.cons (.val .bool) (.cons (.val (.list (.pair (.int .i64) (.one .str)))) (.cons (.val (.int .i64)) (.cons (.val (.int .i64)) .nil)))))⟩
def spec_l6Group.D15 : CutD := ⟨[1, 3, 5, 7, 8, 9], (.cons (.box 0 (.pair (.int .i64) (.pair (.int .i64) (.one (.list (.pair (.int .i64) (.one .str))))))) (.cons (.val .bool) (.cons (.box 9 (.pair (.int .i64) (.one .str))) (.cons (.val (.list (.pair (.int .i64) (.one .str)))) (.cons (.val (.int .i64)) (.cons (.val (.int .i64)) .nil))))))⟩
noncomputable def spec_l6Group.T : Tab := fun k => look k [(6, spec_l6Group.D6), (15, spec_l6Group.D15)]
def spec_l6Group.R : List (Nat × Ty) := [(0, .bool)]
def spec_l6Group.X : List ResultVar := [.tmp 2]
noncomputable def spec_l6Group.K := fin spec_l6Group.E ⟨spec_l6Group.P, spec_l6Group.R, fun _ _ => none⟩ spec_l6Group.X spec_l6Group.P.len 0
noncomputable def spec_l6Group.l6 (g : Int × Int × List (Int × ByteArray)) (t3 : Bool) (t7 : List (Int × ByteArray)) (t8 : Int) (t9 : Int) : Option (Bool) := fixP spec_l6Group.E spec_l6Group.T spec_l6Group.C spec_l6Group.K 6 spec_l6Group.D6 (g, t3, t7, t8, t9)
noncomputable def spec_l6Group.l15 (g : Int × Int × List (Int × ByteArray)) (t3 : Bool) (r : Int × ByteArray) (t7 : List (Int × ByteArray)) (t8 : Int) (t9 : Int) : Option (Bool) := fixP spec_l6Group.E spec_l6Group.T spec_l6Group.C spec_l6Group.K 15 spec_l6Group.D15 (g, t3, r, t7, t8, t9)
noncomputable def spec_l6Group.f (g : Int × Int × List (Int × ByteArray)) : Option (Bool) := Fn spec_l6Group.E spec_l6Group.T spec_l6Group.C spec_l6Group.P spec_l6Group.R spec_l6Group.X g
theorem spec_l6Group.l6_eq (g : Int × Int × List (Int × ByteArray)) (t3 : Bool) (t7 : List (Int × ByteArray)) (t8 : Int) (t9 : Int) : spec_l6Group.l6 g t3 t7 t8 t9 =
  (bif (decide (t9 < t8)) then (bif ((decide (0 ≤ t9)) && (decide (t9 < (t7.length : Int)))) then ((spec_l1In.f (t7.getD (t9).toNat (0, em)).1 1 3).bind fun y25 =>
    bif (!y25) then (some false) else
    ((spec_l1Line.f (t7.getD (t9).toNat (0, em)).2).bind fun y26 =>
     bif (!y26) then (some false) else
     (bif (decide (t9 > 0)) then (bif (decide ((t7.getD (t9).toNat (0, em)).1 = 2)) then (bif ((decide (0 ≤ (w64 (t9 - 1)))) && (decide ((w64 (t9 - 1)) < (g.2.2.length : Int)))) then (bif (decide ((g.2.2.getD ((w64 (t9 - 1))).toNat (0, em)).1 = 3)) then (some false) else
         (spec_l6Group.l15 g t3 (t7.getD (t9).toNat (0, em)) t7 t8 t9)) else none) else
       (spec_l6Group.l15 g t3 (t7.getD (t9).toNat (0, em)) t7 t8 t9)) else
      (spec_l6Group.l15 g t3 (t7.getD (t9).toNat (0, em)) t7 t8 t9)))) else none) else
  (bif t3 then ((spec_l1In.f g.1 0 999).bind fun y25 =>
    bif y25 then ((spec_l1In.f g.2.1 0 999).bind fun y26 =>
     bif y26 then ((spec_l6Old.f g).bind fun y27 =>
      bif (decide ((w64 (g.1 + (y27.length : Int))) ≤ 1000)) then ((spec_l6New.f g).bind fun y28 =>
       bif (decide ((w64 (g.2.1 + (y28.length : Int))) ≤ 1000)) then (bif (decide ((g.2.2.length : Int) ≤ 80)) then ((spec_l6Old.f g).bind fun y29 =>
         (spec_l5Lines.f y29).bind fun y30 =>
         bif y30 then ((spec_l6New.f g).bind fun y31 =>
          (spec_l5Lines.f y31).bind fun y32 =>
          some y32) else (some false)) else (some false)) else (some false)) else (some false)) else (some false)) else (some false)) else (some false))) :=
  (fixP_eq spec_l6Group.E spec_l6Group.T spec_l6Group.C spec_l6Group.K 6 spec_l6Group.D6 (g, t3, t7, t8, t9)).trans (by kernel_rfl)
theorem spec_l6Group.l15_eq (g : Int × Int × List (Int × ByteArray)) (t3 : Bool) (r : Int × ByteArray) (t7 : List (Int × ByteArray)) (t8 : Int) (t9 : Int) : spec_l6Group.l15 g t3 r t7 t8 t9 =
  (bif t3 then (spec_l6Group.l6 g true t7 t8 (w64 (t9 + 1))) else
  (spec_l6Group.l6 g (!(decide (r.1 = 1))) t7 t8 (w64 (t9 + 1)))) :=
  (fixP_eq spec_l6Group.E spec_l6Group.T spec_l6Group.C spec_l6Group.K 15 spec_l6Group.D15 (g, t3, r, t7, t8, t9)).trans (by kernel_rfl)
theorem spec_l6Group.f_eq (g : Int × Int × List (Int × ByteArray)) : spec_l6Group.f g =
  (spec_l6Group.l6 g false g.2.2 (g.2.2.length : Int) 0) := by kernel_rfl
noncomputable def spec_l6Group.S : Abs.Sum := ⟨spec_l6Group.P, spec_l6Group.R, fun _ => Fn spec_l6Group.E spec_l6Group.T spec_l6Group.C spec_l6Group.P spec_l6Group.R spec_l6Group.X⟩
theorem spec_l6Group.meets : Meets Tryz.prog 43 spec_l6Group.S := meets_tab (S := spec_l6Group.U) tabOk_all (AllMeets.cons spec_l1In.meets (AllMeets.cons spec_l1Line.meets (AllMeets.cons spec_l6Old.meets (AllMeets.cons spec_l6New.meets (AllMeets.cons spec_l5Lines.meets AllMeets.nil))))) (AllStill.cons (fun _ _ _ => rfl) (AllStill.cons (fun _ _ _ => rfl) (AllStill.cons (fun _ _ _ => rfl) (AllStill.cons (fun _ _ _ => rfl) (AllStill.cons (fun _ _ _ => rfl) AllStill.nil))))) follows (by kernel_rfl : Tryz.prog.funcs[43]? = some Tryz.f43) (by kernel_rfl) (by kernel_rfl) (by kernel_rfl)
noncomputable def spec_l6Good.C : Code := Tryz.f34.body.getD .skip
def spec_l6Good.P : Par := (.cons (.val (.list (.pair (.int .i64) (.pair (.int .i64) (.one (.list (.pair (.int .i64) (.one .str)))))))) .nil)
noncomputable def spec_l6Good.U : SumTab := [(43, [], spec_l6Group.S), (37, [], spec_l6Old.S), (39, [], spec_l6New.S)]
noncomputable def spec_l6Good.E : Env := mkEnv TY AR spec_l6Good.U
def spec_l6Good.D4 : CutD := ⟨[0, 5, 6, 7], (.cons (.val (.list (.pair (.int .i64) (.pair (.int .i64) (.one (.list (.pair (.int .i64) (.one .str)))))))) (.cons (.val (.list (.pair (.int .i64) (.pair (.int .i64) (.one (.list (.pair (.int .i64) (.one .str)))))))) (.cons (.val (.int .i64)) (.cons (.val (.int .i64)) .nil))))⟩
noncomputable def spec_l6Good.T : Tab := fun k => look k [(4, spec_l6Good.D4)]
def spec_l6Good.R : List (Nat × Ty) := [(0, .bool)]
def spec_l6Good.X : List ResultVar := [.tmp 2]
noncomputable def spec_l6Good.K := fin spec_l6Good.E ⟨spec_l6Good.P, spec_l6Good.R, fun _ _ => none⟩ spec_l6Good.X spec_l6Good.P.len 0
noncomputable def spec_l6Good.l4 (g : List (Int × Int × List (Int × ByteArray))) (t5 : List (Int × Int × List (Int × ByteArray))) (t6 : Int) (t7 : Int) : Option (Bool) := fixP spec_l6Good.E spec_l6Good.T spec_l6Good.C spec_l6Good.K 4 spec_l6Good.D4 (g, t5, t6, t7)
noncomputable def spec_l6Good.f (g : List (Int × Int × List (Int × ByteArray))) : Option (Bool) := Fn spec_l6Good.E spec_l6Good.T spec_l6Good.C spec_l6Good.P spec_l6Good.R spec_l6Good.X g
theorem spec_l6Good.l4_eq (g : List (Int × Int × List (Int × ByteArray))) (t5 : List (Int × Int × List (Int × ByteArray))) (t6 : Int) (t7 : Int) : spec_l6Good.l4 g t5 t6 t7 =
  (bif (decide (t7 < t6)) then (bif ((decide (0 ≤ t7)) && (decide (t7 < (t5.length : Int)))) then ((spec_l6Group.f (t5.getD (t7).toNat (0, 0, ([] : List (Int × ByteArray))))).bind fun y25 =>
    bif (!y25) then (some false) else
    (bif (decide (t7 > 0)) then (bif ((decide (0 ≤ (w64 (t7 - 1)))) && (decide ((w64 (t7 - 1)) < (g.length : Int)))) then (bif ((decide (0 ≤ (w64 (t7 - 1)))) && (decide ((w64 (t7 - 1)) < (g.length : Int)))) then ((spec_l6Old.f (g.getD ((w64 (t7 - 1))).toNat (0, 0, ([] : List (Int × ByteArray))))).bind fun y26 =>
        bif (decide ((t5.getD (t7).toNat (0, 0, ([] : List (Int × ByteArray)))).1 < (w64 ((g.getD ((w64 (t7 - 1))).toNat (0, 0, ([] : List (Int × ByteArray)))).1 + (y26.length : Int))))) then (some false) else
        (bif ((decide (0 ≤ (w64 (t7 - 1)))) && (decide ((w64 (t7 - 1)) < (g.length : Int)))) then (bif ((decide (0 ≤ (w64 (t7 - 1)))) && (decide ((w64 (t7 - 1)) < (g.length : Int)))) then ((spec_l6New.f (g.getD ((w64 (t7 - 1))).toNat (0, 0, ([] : List (Int × ByteArray))))).bind fun y27 =>
           bif (decide ((t5.getD (t7).toNat (0, 0, ([] : List (Int × ByteArray)))).2.1 < (w64 ((g.getD ((w64 (t7 - 1))).toNat (0, 0, ([] : List (Int × ByteArray)))).2.1 + (y27.length : Int))))) then (some false) else
           (spec_l6Good.l4 g t5 t6 (w64 (t7 + 1)))) else none) else none)) else none) else none) else
     (spec_l6Good.l4 g t5 t6 (w64 (t7 + 1))))) else none) else (some (decide ((g.length : Int) ≤ 20)))) :=
  (fixP_eq spec_l6Good.E spec_l6Good.T spec_l6Good.C spec_l6Good.K 4 spec_l6Good.D4 (g, t5, t6, t7)).trans (by kernel_rfl)
theorem spec_l6Good.f_eq (g : List (Int × Int × List (Int × ByteArray))) : spec_l6Good.f g =
  (spec_l6Good.l4 g g (g.length : Int) 0) := by kernel_rfl
noncomputable def spec_l6Good.S : Abs.Sum := ⟨spec_l6Good.P, spec_l6Good.R, fun _ => Fn spec_l6Good.E spec_l6Good.T spec_l6Good.C spec_l6Good.P spec_l6Good.R spec_l6Good.X⟩
theorem spec_l6Good.meets : Meets Tryz.prog 34 spec_l6Good.S := meets_tab (S := spec_l6Good.U) tabOk_all (AllMeets.cons spec_l6Group.meets (AllMeets.cons spec_l6Old.meets (AllMeets.cons spec_l6New.meets AllMeets.nil))) (AllStill.cons (fun _ _ _ => rfl) (AllStill.cons (fun _ _ _ => rfl) (AllStill.cons (fun _ _ _ => rfl) AllStill.nil))) follows (by kernel_rfl : Tryz.prog.funcs[34]? = some Tryz.f34) (by kernel_rfl) (by kernel_rfl) (by kernel_rfl)
noncomputable def spec_l1SameT.C : Code := Tryz.f77.body.getD .skip
def spec_l1SameT.P : Par := (.cons (.val (.list .str)) (.cons (.val (.list .str)) .nil))
noncomputable def spec_l1SameT.U : SumTab := []
noncomputable def spec_l1SameT.E : Env := mkEnv TY AR spec_l1SameT.U
def spec_l1SameT.D8 : CutD := ⟨[0, 1, 12, 13], (.cons (.val (.list .str)) (.cons (.val (.list .str)) (.cons (.val (.int .i64)) (.cons (.val (.int .i64)) .nil))))⟩
noncomputable def spec_l1SameT.T : Tab := fun k => look k [(8, spec_l1SameT.D8)]
def spec_l1SameT.R : List (Nat × Ty) := [(0, .bool)]
def spec_l1SameT.X : List ResultVar := [.tmp 4]
noncomputable def spec_l1SameT.K := fin spec_l1SameT.E ⟨spec_l1SameT.P, spec_l1SameT.R, fun _ _ => none⟩ spec_l1SameT.X spec_l1SameT.P.len 0
noncomputable def spec_l1SameT.l8 (a : List ByteArray) (b : List ByteArray) (t12 : Int) (t13 : Int) : Option (Bool) := fixP spec_l1SameT.E spec_l1SameT.T spec_l1SameT.C spec_l1SameT.K 8 spec_l1SameT.D8 (a, b, t12, t13)
noncomputable def spec_l1SameT.f (a : List ByteArray) (b : List ByteArray) : Option (Bool) := Fn spec_l1SameT.E spec_l1SameT.T spec_l1SameT.C spec_l1SameT.P spec_l1SameT.R spec_l1SameT.X (a, b)
theorem spec_l1SameT.l8_eq (a : List ByteArray) (b : List ByteArray) (t12 : Int) (t13 : Int) : spec_l1SameT.l8 a b t12 t13 =
  (bif (decide (t13 < t12)) then (bif ((decide (0 ≤ t13)) && (decide (t13 < (a.length : Int)))) then (bif ((decide (0 ≤ t13)) && (decide (t13 < (b.length : Int)))) then (bif (!((a.getD (t13).toNat em).toList == (b.getD (t13).toNat em).toList)) then (some false) else
     (spec_l1SameT.l8 a b t12 (w64 (t13 + 1)))) else none) else none) else (some true)) :=
  (fixP_eq spec_l1SameT.E spec_l1SameT.T spec_l1SameT.C spec_l1SameT.K 8 spec_l1SameT.D8 (a, b, t12, t13)).trans (by kernel_rfl)
theorem spec_l1SameT.f_eq (a : List ByteArray) (b : List ByteArray) : spec_l1SameT.f a b =
  (bif (!(decide ((a.length : Int) = (b.length : Int)))) then (some false) else
  (spec_l1SameT.l8 a b (a.length : Int) 0)) := by kernel_rfl
noncomputable def spec_l1SameT.S : Abs.Sum := ⟨spec_l1SameT.P, spec_l1SameT.R, fun _ => Fn spec_l1SameT.E spec_l1SameT.T spec_l1SameT.C spec_l1SameT.P spec_l1SameT.R spec_l1SameT.X⟩
theorem spec_l1SameT.meets : Meets Tryz.prog 77 spec_l1SameT.S := meets_tab (S := spec_l1SameT.U) tabOk_all AllMeets.nil AllStill.nil follows (by kernel_rfl : Tryz.prog.funcs[77]? = some Tryz.f77) (by kernel_rfl) (by kernel_rfl) (by kernel_rfl)
noncomputable def spec_l16Fits.C : Code := Tryz.f48.body.getD .skip
def spec_l16Fits.P : Par := (.cons (.val (.list .str)) (.cons (.val (.list .str)) (.cons (.val (.int .i64)) .nil)))
noncomputable def spec_l16Fits.U : SumTab := [(35, [], spec_l1In.S), (77, [], spec_l1SameT.S)]
noncomputable def spec_l16Fits.E : Env := mkEnv TY AR spec_l16Fits.U
noncomputable def spec_l16Fits.T : Tab := fun k => look k []
def spec_l16Fits.R : List (Nat × Ty) := [(0, .bool)]
def spec_l16Fits.X : List ResultVar := [.tmp 6]
noncomputable def spec_l16Fits.f (l : List ByteArray) (t1 : List ByteArray) (t2 : Int) : Option (Bool) := Fn spec_l16Fits.E spec_l16Fits.T spec_l16Fits.C spec_l16Fits.P spec_l16Fits.R spec_l16Fits.X (l, t1, t2)
theorem spec_l16Fits.f_eq (l : List ByteArray) (t1 : List ByteArray) (t2 : Int) : spec_l16Fits.f l t1 t2 =
  ((spec_l1In.f t2 0 (w64 ((l.length : Int) - (t1.length : Int)))).bind fun y25 =>
  bif y25 then (bif ((decide (0 ≤ t2)) && ((decide (t2 ≤ (w64 (t2 + (t1.length : Int))))) && (decide ((w64 (t2 + (t1.length : Int))) ≤ (l.length : Int))))) then ((spec_l1SameT.f ((l.take ((w64 (t2 + (t1.length : Int)))).toNat).drop (t2).toNat) t1).bind fun y26 =>
    some y26) else none) else (some false)) := by kernel_rfl
noncomputable def spec_l16Fits.S : Abs.Sum := ⟨spec_l16Fits.P, spec_l16Fits.R, fun _ => Fn spec_l16Fits.E spec_l16Fits.T spec_l16Fits.C spec_l16Fits.P spec_l16Fits.R spec_l16Fits.X⟩
theorem spec_l16Fits.meets : Meets Tryz.prog 48 spec_l16Fits.S := meets_tab (S := spec_l16Fits.U) tabOk_all (AllMeets.cons spec_l1In.meets (AllMeets.cons spec_l1SameT.meets AllMeets.nil)) (AllStill.cons (fun _ _ _ => rfl) (AllStill.cons (fun _ _ _ => rfl) AllStill.nil)) follows (by kernel_rfl : Tryz.prog.funcs[48]? = some Tryz.f48) (by kernel_rfl) (by kernel_rfl) (by kernel_rfl)
noncomputable def spec_l16Near.C : Code := Tryz.f38.body.getD .skip
def spec_l16Near.P : Par := (.cons (.val (.list .str)) (.cons (.val (.list .str)) (.cons (.val (.int .i64)) (.cons (.val (.int .i64)) .nil))))
noncomputable def spec_l16Near.U : SumTab := [(48, [], spec_l16Fits.S)]
noncomputable def spec_l16Near.E : Env := mkEnv TY AR spec_l16Near.U
def spec_l16Near.D4 : CutD := ⟨[0, 1, 2, 3, 9], (.cons (.val (.list .str)) (.cons (.val (.list .str)) (.cons (.val (.int .i64)) (.cons (.val (.int .i64)) (.cons (.val (.int .i64)) .nil)))))⟩
noncomputable def spec_l16Near.T : Tab := fun k => look k [(4, spec_l16Near.D4)]
def spec_l16Near.R : List (Nat × Ty) := [(0, .int .i64)]
def spec_l16Near.X : List ResultVar := [.tmp 8]
noncomputable def spec_l16Near.K := fin spec_l16Near.E ⟨spec_l16Near.P, spec_l16Near.R, fun _ _ => none⟩ spec_l16Near.X spec_l16Near.P.len 0
noncomputable def spec_l16Near.l4 (l : List ByteArray) (t1 : List ByteArray) (t2 : Int) (far : Int) (n : Int) : Option (Int) := fixP spec_l16Near.E spec_l16Near.T spec_l16Near.C spec_l16Near.K 4 spec_l16Near.D4 (l, t1, t2, far, n)
noncomputable def spec_l16Near.f (l : List ByteArray) (t1 : List ByteArray) (t2 : Int) (far : Int) : Option (Int) := Fn spec_l16Near.E spec_l16Near.T spec_l16Near.C spec_l16Near.P spec_l16Near.R spec_l16Near.X (l, t1, t2, far)
theorem spec_l16Near.l4_eq (l : List ByteArray) (t1 : List ByteArray) (t2 : Int) (far : Int) (n : Int) : spec_l16Near.l4 l t1 t2 far n =
  (bif (decide (n ≤ far)) then ((spec_l16Fits.f l t1 (w64 (t2 - n))).bind fun y25 =>
   bif y25 then (some (w64 (t2 - n))) else
   ((spec_l16Fits.f l t1 (w64 (t2 + n))).bind fun y26 =>
    bif y26 then (some (w64 (t2 + n))) else
    (spec_l16Near.l4 l t1 t2 far (w64 (n + 1))))) else (some (-1))) :=
  (fixP_eq spec_l16Near.E spec_l16Near.T spec_l16Near.C spec_l16Near.K 4 spec_l16Near.D4 (l, t1, t2, far, n)).trans (by kernel_rfl)
theorem spec_l16Near.f_eq (l : List ByteArray) (t1 : List ByteArray) (t2 : Int) (far : Int) : spec_l16Near.f l t1 t2 far =
  (spec_l16Near.l4 l t1 t2 far 0) := by kernel_rfl
noncomputable def spec_l16Near.S : Abs.Sum := ⟨spec_l16Near.P, spec_l16Near.R, fun _ => Fn spec_l16Near.E spec_l16Near.T spec_l16Near.C spec_l16Near.P spec_l16Near.R spec_l16Near.X⟩
theorem spec_l16Near.meets : Meets Tryz.prog 38 spec_l16Near.S := meets_tab (S := spec_l16Near.U) tabOk_all (AllMeets.cons spec_l16Fits.meets AllMeets.nil) (AllStill.cons (fun _ _ _ => rfl) AllStill.nil) follows (by kernel_rfl : Tryz.prog.funcs[38]? = some Tryz.f38) (by kernel_rfl) (by kernel_rfl) (by kernel_rfl)
noncomputable def spec_ApplyNear.C : Code := Tryz.f7.body.getD .skip
def spec_ApplyNear.P : Par := (.cons (.val (.list .str)) (.cons (.val (.list (.pair (.int .i64) (.pair (.int .i64) (.one (.list (.pair (.int .i64) (.one .str)))))))) (.cons (.val (.int .i64)) .nil)))
noncomputable def spec_ApplyNear.U : SumTab := [(24, [], spec_l1Good.S), (34, [], spec_l6Good.S), (35, [], spec_l1In.S), (36, [], spec_l1OwnT.S), (37, [], spec_l6Old.S), (38, [], spec_l16Near.S), (39, [], spec_l6New.S)]
def spec_ApplyNear.Z : List (Nat × List Nat) := [(14, [10])]
noncomputable def spec_ApplyNear.E : Env := mkEnvZ TY AR spec_ApplyNear.U spec_ApplyNear.Z
def spec_ApplyNear.D7 : CutD := ⟨[0, 1, 2], (.cons (.val (.list .str)) (.cons (.val (.list (.pair (.int .i64) (.pair (.int .i64) (.one (.list (.pair (.int .i64) (.one .str)))))))) (.cons (.val (.int .i64)) .nil)))⟩
def spec_ApplyNear.D14 : CutD := ⟨[2, 10, 11, 12, 32, 33, 34], (.cons (.val (.int .i64)) (.cons (.own 8 .str) (.cons (.own 9 (.int .i64)) (.cons (.val (.int .i64)) (.cons (.val (.list (.pair (.int .i64) (.pair (.int .i64) (.one (.list (.pair (.int .i64) (.one .str)))))))) (.cons (.val (.int .i64)) (.cons (.val (.int .i64)) .nil)))))))⟩
noncomputable def spec_ApplyNear.T : Tab := fun k => look k [(7, spec_ApplyNear.D7), (14, spec_ApplyNear.D14)]
def spec_ApplyNear.R : List (Nat × Ty) := [(9, .list .str), (9, .list (.int .i64)), (0, .int .i64), (0, .bool)]
def spec_ApplyNear.X : List ResultVar := [.tmp 6, .tmp 7, .tmp 8, .tmp 9]
noncomputable def spec_ApplyNear.K := fin spec_ApplyNear.E ⟨spec_ApplyNear.P, spec_ApplyNear.R, fun _ _ => none⟩ spec_ApplyNear.X spec_ApplyNear.P.len 0
noncomputable def spec_ApplyNear.l7 (l : List ByteArray) (g : List (Int × Int × List (Int × ByteArray))) (far : Int) : Option ((List ByteArray) × (List Int) × Int × Bool) := fixP spec_ApplyNear.E spec_ApplyNear.T spec_ApplyNear.C spec_ApplyNear.K 7 spec_ApplyNear.D7 (l, g, far)
noncomputable def spec_ApplyNear.l14 (far : Int) (out : List ByteArray) (places : List Int) (t12 : Int) (t32 : List (Int × Int × List (Int × ByteArray))) (t33 : Int) (t34 : Int) : Option ((List ByteArray) × (List Int) × Int × Bool) := fixP spec_ApplyNear.E spec_ApplyNear.T spec_ApplyNear.C spec_ApplyNear.K 14 spec_ApplyNear.D14 (far, out, places, t12, t32, t33, t34)
noncomputable def spec_ApplyNear.f (l : List ByteArray) (g : List (Int × Int × List (Int × ByteArray))) (far : Int) : Option ((List ByteArray) × (List Int) × Int × Bool) := Fn spec_ApplyNear.E spec_ApplyNear.T spec_ApplyNear.C spec_ApplyNear.P spec_ApplyNear.R spec_ApplyNear.X (l, g, far)
theorem spec_ApplyNear.l7_eq (l : List ByteArray) (g : List (Int × Int × List (Int × ByteArray))) (far : Int) : spec_ApplyNear.l7 l g far =
  ((spec_l1OwnT.f l).bind fun y25 =>
  spec_ApplyNear.l14 far y25 ([] : List Int) 0 g (g.length : Int) 0) :=
  (fixP_eq spec_ApplyNear.E spec_ApplyNear.T spec_ApplyNear.C spec_ApplyNear.K 7 spec_ApplyNear.D7 (l, g, far)).trans (by kernel_rfl)
theorem spec_ApplyNear.l14_eq (far : Int) (out : List ByteArray) (places : List Int) (t12 : Int) (t32 : List (Int × Int × List (Int × ByteArray))) (t33 : Int) (t34 : Int) : spec_ApplyNear.l14 far out places t12 t32 t33 t34 =
  (bif (decide (t34 < t33)) then (bif ((decide (0 ≤ t34)) && (decide (t34 < (t32.length : Int)))) then ((spec_l6Old.f (t32.getD (t34).toNat (0, 0, ([] : List (Int × ByteArray))))).bind fun y25 =>
    (spec_l16Near.f out y25 (w64 ((t32.getD (t34).toNat (0, 0, ([] : List (Int × ByteArray)))).1 + t12)) far).bind fun y26 =>
    bif (decide (y26 < 0)) then (some (([] : List ByteArray), ([] : List Int), 2, true)) else
    (bif (decide ((places.length + [y26].length) ≤ room 8)) then (bif ((decide (0 ≤ y26)) && (decide (y26 ≤ (out.length : Int)))) then ((spec_l1OwnT.f (out.take (y26).toNat)).bind fun y27 =>
       (spec_l6New.f (t32.getD (t34).toNat (0, 0, ([] : List (Int × ByteArray))))).bind fun y28 =>
       bif (decide ((y27.length + y28.length) ≤ room 16)) then (bif ((decide (0 ≤ (w64 (y26 + (y25.length : Int))))) && (decide ((w64 (y26 + (y25.length : Int))) ≤ (out.length : Int)))) then (bif (decide (((y27 ++ y28).length + (out.drop ((w64 (y26 + (y25.length : Int)))).toNat).length) ≤ room 16)) then ((spec_l6New.f (t32.getD (t34).toNat (0, 0, ([] : List (Int × ByteArray))))).bind fun y29 =>
          spec_ApplyNear.l14 far ((y27 ++ y28) ++ (out.drop ((w64 (y26 + (y25.length : Int)))).toNat)) (places ++ [y26]) (w64 ((w64 ((w64 (y26 - (t32.getD (t34).toNat (0, 0, ([] : List (Int × ByteArray)))).1)) + (y29.length : Int))) - (y25.length : Int))) t32 t33 (w64 (t34 + 1))) else none) else none) else none) else none) else none)) else none) else
  ((spec_l1Good.f out).bind fun y25 =>
   bif (!y25) then (some (([] : List ByteArray), ([] : List Int), 2, true)) else (some (out, places, 0, true)))) :=
  (fixP_eq spec_ApplyNear.E spec_ApplyNear.T spec_ApplyNear.C spec_ApplyNear.K 14 spec_ApplyNear.D14 (far, out, places, t12, t32, t33, t34)).trans (by kernel_rfl)
theorem spec_ApplyNear.f_eq (l : List ByteArray) (g : List (Int × Int × List (Int × ByteArray))) (far : Int) : spec_ApplyNear.f l g far =
  ((spec_l1Good.f l).bind fun y25 =>
  bif (!y25) then (some (([] : List ByteArray), ([] : List Int), 0, false)) else
  ((spec_l6Good.f g).bind fun y26 =>
   bif (!y26) then (some (([] : List ByteArray), ([] : List Int), 0, false)) else
   ((spec_l1In.f far 0 40).bind fun y27 =>
    bif (!y27) then (some (([] : List ByteArray), ([] : List Int), 0, false)) else
    (spec_ApplyNear.l7 l g far)))) := by kernel_rfl
noncomputable def spec_ApplyNear.S : Abs.Sum := ⟨spec_ApplyNear.P, spec_ApplyNear.R, fun _ => Fn spec_ApplyNear.E spec_ApplyNear.T spec_ApplyNear.C spec_ApplyNear.P spec_ApplyNear.R spec_ApplyNear.X⟩
theorem spec_ApplyNear.meets : Meets Tryz.prog 7 spec_ApplyNear.S := meets_tabZ spec_ApplyNear.Z (S := spec_ApplyNear.U) tabOk_all (AllMeets.cons spec_l1Good.meets (AllMeets.cons spec_l6Good.meets (AllMeets.cons spec_l1In.meets (AllMeets.cons spec_l1OwnT.meets (AllMeets.cons spec_l6Old.meets (AllMeets.cons spec_l16Near.meets (AllMeets.cons spec_l6New.meets AllMeets.nil))))))) (AllStill.cons (fun _ _ _ => rfl) (AllStill.cons (fun _ _ _ => rfl) (AllStill.cons (fun _ _ _ => rfl) (AllStill.cons (fun _ _ _ => rfl) (AllStill.cons (fun _ _ _ => rfl) (AllStill.cons (fun _ _ _ => rfl) (AllStill.cons (fun _ _ _ => rfl) AllStill.nil))))))) follows (by kernel_rfl : Tryz.prog.funcs[7]? = some Tryz.f7) (by kernel_rfl) (by kernel_rfl) (by kernel_rfl)
noncomputable def laws_sameTexts.C : Code := Tryz.f8.body.getD .skip
def laws_sameTexts.P : Par := (.cons (.val (.list .str)) (.cons (.val (.list .str)) .nil))
noncomputable def laws_sameTexts.U : SumTab := []
noncomputable def laws_sameTexts.E : Env := mkEnv TY AR laws_sameTexts.U
def laws_sameTexts.D8 : CutD := ⟨[0, 1, 12, 13], (.cons (.val (.list .str)) (.cons (.val (.list .str)) (.cons (.val (.int .i64)) (.cons (.val (.int .i64)) .nil))))⟩
noncomputable def laws_sameTexts.T : Tab := fun k => look k [(8, laws_sameTexts.D8)]
def laws_sameTexts.R : List (Nat × Ty) := [(0, .bool)]
def laws_sameTexts.X : List ResultVar := [.tmp 4]
noncomputable def laws_sameTexts.K := fin laws_sameTexts.E ⟨laws_sameTexts.P, laws_sameTexts.R, fun _ _ => none⟩ laws_sameTexts.X laws_sameTexts.P.len 0
noncomputable def laws_sameTexts.l8 (a : List ByteArray) (b : List ByteArray) (t12 : Int) (t13 : Int) : Option (Bool) := fixP laws_sameTexts.E laws_sameTexts.T laws_sameTexts.C laws_sameTexts.K 8 laws_sameTexts.D8 (a, b, t12, t13)
noncomputable def laws_sameTexts.f (a : List ByteArray) (b : List ByteArray) : Option (Bool) := Fn laws_sameTexts.E laws_sameTexts.T laws_sameTexts.C laws_sameTexts.P laws_sameTexts.R laws_sameTexts.X (a, b)
theorem laws_sameTexts.l8_eq (a : List ByteArray) (b : List ByteArray) (t12 : Int) (t13 : Int) : laws_sameTexts.l8 a b t12 t13 =
  (bif (decide (t13 < t12)) then (bif ((decide (0 ≤ t13)) && (decide (t13 < (a.length : Int)))) then (bif ((decide (0 ≤ t13)) && (decide (t13 < (b.length : Int)))) then (bif (!((a.getD (t13).toNat em).toList == (b.getD (t13).toNat em).toList)) then (some false) else
     (laws_sameTexts.l8 a b t12 (w64 (t13 + 1)))) else none) else none) else (some true)) :=
  (fixP_eq laws_sameTexts.E laws_sameTexts.T laws_sameTexts.C laws_sameTexts.K 8 laws_sameTexts.D8 (a, b, t12, t13)).trans (by kernel_rfl)
theorem laws_sameTexts.f_eq (a : List ByteArray) (b : List ByteArray) : laws_sameTexts.f a b =
  (bif (!(decide ((a.length : Int) = (b.length : Int)))) then (some false) else
  (laws_sameTexts.l8 a b (a.length : Int) 0)) := by kernel_rfl
noncomputable def laws_sameTexts.S : Abs.Sum := ⟨laws_sameTexts.P, laws_sameTexts.R, fun _ => Fn laws_sameTexts.E laws_sameTexts.T laws_sameTexts.C laws_sameTexts.P laws_sameTexts.R laws_sameTexts.X⟩
theorem laws_sameTexts.meets : Meets Tryz.prog 8 laws_sameTexts.S := meets_tab (S := laws_sameTexts.U) tabOk_all AllMeets.nil AllStill.nil follows (by kernel_rfl : Tryz.prog.funcs[8]? = some Tryz.f8) (by kernel_rfl) (by kernel_rfl) (by kernel_rfl)
noncomputable def laws_sameInts.C : Code := Tryz.f9.body.getD .skip
def laws_sameInts.P : Par := (.cons (.val (.list (.int .i64))) (.cons (.val (.list (.int .i64))) .nil))
noncomputable def laws_sameInts.U : SumTab := []
noncomputable def laws_sameInts.E : Env := mkEnv TY AR laws_sameInts.U
def laws_sameInts.D8 : CutD := ⟨[0, 1, 12, 13], (.cons (.val (.list (.int .i64))) (.cons (.val (.list (.int .i64))) (.cons (.val (.int .i64)) (.cons (.val (.int .i64)) .nil))))⟩
noncomputable def laws_sameInts.T : Tab := fun k => look k [(8, laws_sameInts.D8)]
def laws_sameInts.R : List (Nat × Ty) := [(0, .bool)]
def laws_sameInts.X : List ResultVar := [.tmp 4]
noncomputable def laws_sameInts.K := fin laws_sameInts.E ⟨laws_sameInts.P, laws_sameInts.R, fun _ _ => none⟩ laws_sameInts.X laws_sameInts.P.len 0
noncomputable def laws_sameInts.l8 (a : List Int) (b : List Int) (t12 : Int) (t13 : Int) : Option (Bool) := fixP laws_sameInts.E laws_sameInts.T laws_sameInts.C laws_sameInts.K 8 laws_sameInts.D8 (a, b, t12, t13)
noncomputable def laws_sameInts.f (a : List Int) (b : List Int) : Option (Bool) := Fn laws_sameInts.E laws_sameInts.T laws_sameInts.C laws_sameInts.P laws_sameInts.R laws_sameInts.X (a, b)
theorem laws_sameInts.l8_eq (a : List Int) (b : List Int) (t12 : Int) (t13 : Int) : laws_sameInts.l8 a b t12 t13 =
  (bif (decide (t13 < t12)) then (bif ((decide (0 ≤ t13)) && (decide (t13 < (a.length : Int)))) then (bif ((decide (0 ≤ t13)) && (decide (t13 < (b.length : Int)))) then (bif (!(decide ((a.getD (t13).toNat 0) = (b.getD (t13).toNat 0)))) then (some false) else
     (laws_sameInts.l8 a b t12 (w64 (t13 + 1)))) else none) else none) else (some true)) :=
  (fixP_eq laws_sameInts.E laws_sameInts.T laws_sameInts.C laws_sameInts.K 8 laws_sameInts.D8 (a, b, t12, t13)).trans (by kernel_rfl)
theorem laws_sameInts.f_eq (a : List Int) (b : List Int) : laws_sameInts.f a b =
  (bif (!(decide ((a.length : Int) = (b.length : Int)))) then (some false) else
  (laws_sameInts.l8 a b (a.length : Int) 0)) := by kernel_rfl
noncomputable def laws_sameInts.S : Abs.Sum := ⟨laws_sameInts.P, laws_sameInts.R, fun _ => Fn laws_sameInts.E laws_sameInts.T laws_sameInts.C laws_sameInts.P laws_sameInts.R laws_sameInts.X⟩
theorem laws_sameInts.meets : Meets Tryz.prog 9 laws_sameInts.S := meets_tab (S := laws_sameInts.U) tabOk_all AllMeets.nil AllStill.nil follows (by kernel_rfl : Tryz.prog.funcs[9]? = some Tryz.f9) (by kernel_rfl) (by kernel_rfl) (by kernel_rfl)
noncomputable def impl_GroupHunks_1.C : Code := Tryz.f66.body.getD .skip
def impl_GroupHunks_1.P : Par := (.cons (.val (.pair (.int .i64) (.pair (.int .i64) (.one (.list (.pair (.int .i64) (.one .str))))))) (.cons (.box 0 (.list .str)) .nil))
noncomputable def impl_GroupHunks_1.U : SumTab := [(30, [], impl_Group_old.S)]
noncomputable def impl_GroupHunks_1.E : Env := mkEnv TY AR impl_GroupHunks_1.U
noncomputable def impl_GroupHunks_1.T : Tab := fun k => look k []
def impl_GroupHunks_1.R : List (Nat × Ty) := [(0, .bool)]
def impl_GroupHunks_1.X : List ResultVar := [.tmp 3]
noncomputable def impl_GroupHunks_1.f (x : Int × Int × List (Int × ByteArray)) (t1 : List ByteArray) : Option (Bool × (List ByteArray)) := Fn impl_GroupHunks_1.E impl_GroupHunks_1.T impl_GroupHunks_1.C impl_GroupHunks_1.P impl_GroupHunks_1.R impl_GroupHunks_1.X (x, t1)
theorem impl_GroupHunks_1.f_eq (x : Int × Int × List (Int × ByteArray)) (t1 : List ByteArray) : impl_GroupHunks_1.f x t1 =
  ((impl_Group_old.f x).bind fun y25 =>
  some ((decide ((w64 (x.1 + (y25.length : Int))) > (t1.length : Int))), t1)) := by kernel_rfl
noncomputable def impl_GroupHunks_1.S : Abs.Sum := ⟨impl_GroupHunks_1.P, impl_GroupHunks_1.R, fun _ => Fn impl_GroupHunks_1.E impl_GroupHunks_1.T impl_GroupHunks_1.C impl_GroupHunks_1.P impl_GroupHunks_1.R impl_GroupHunks_1.X⟩
theorem impl_GroupHunks_1.meets : Meets Tryz.prog 66 impl_GroupHunks_1.S := meets_tab (S := impl_GroupHunks_1.U) tabOk_all (AllMeets.cons impl_Group_old.meets AllMeets.nil) (AllStill.cons (fun _ _ _ => rfl) AllStill.nil) follows (by kernel_rfl : Tryz.prog.funcs[66]? = some Tryz.f66) (by kernel_rfl) (by kernel_rfl) (by kernel_rfl)
noncomputable def slices_IndexFunc_Limpl_Group_impl_Group__impl_GroupHunks_1.C : Code := Tryz.f85.body.getD .skip
def slices_IndexFunc_Limpl_Group_impl_Group__impl_GroupHunks_1.P : Par := (.cons (.val (.list (.pair (.int .i64) (.pair (.int .i64) (.one (.list (.pair (.int .i64) (.one .str)))))))) (.cons (.fn 66 (.cons (.box 0 (.list .str)) .nil)) .nil))
noncomputable def slices_IndexFunc_Limpl_Group_impl_Group__impl_GroupHunks_1.U : SumTab := [(66, [], impl_GroupHunks_1.S)]
noncomputable def slices_IndexFunc_Limpl_Group_impl_Group__impl_GroupHunks_1.E : Env := mkEnv TY AR slices_IndexFunc_Limpl_Group_impl_Group__impl_GroupHunks_1.U
def slices_IndexFunc_Limpl_Group_impl_Group__impl_GroupHunks_1.D4 : CutD := ⟨[0, 1, 7, 8], (.cons (.val (.list (.pair (.int .i64) (.pair (.int .i64) (.one (.list (.pair (.int .i64) (.one .str)))))))) (.cons (.fn 66 (.cons (.box 0 (.list .str)) .nil)) (.cons (.val (.int .i64)) (.cons (.val (.int .i64)) .nil))))⟩
noncomputable def slices_IndexFunc_Limpl_Group_impl_Group__impl_GroupHunks_1.T : Tab := fun k => look k [(4, slices_IndexFunc_Limpl_Group_impl_Group__impl_GroupHunks_1.D4)]
def slices_IndexFunc_Limpl_Group_impl_Group__impl_GroupHunks_1.R : List (Nat × Ty) := [(0, .int .i64)]
def slices_IndexFunc_Limpl_Group_impl_Group__impl_GroupHunks_1.X : List ResultVar := [.tmp 4]
noncomputable def slices_IndexFunc_Limpl_Group_impl_Group__impl_GroupHunks_1.K := fin slices_IndexFunc_Limpl_Group_impl_Group__impl_GroupHunks_1.E ⟨slices_IndexFunc_Limpl_Group_impl_Group__impl_GroupHunks_1.P, slices_IndexFunc_Limpl_Group_impl_Group__impl_GroupHunks_1.R, fun _ _ => none⟩ slices_IndexFunc_Limpl_Group_impl_Group__impl_GroupHunks_1.X slices_IndexFunc_Limpl_Group_impl_Group__impl_GroupHunks_1.P.len 0
noncomputable def slices_IndexFunc_Limpl_Group_impl_Group__impl_GroupHunks_1.l4 (s : List (Int × Int × List (Int × ByteArray))) (f : List ByteArray) (t7 : Int) (t8 : Int) : Option (Int × (List ByteArray)) := fixP slices_IndexFunc_Limpl_Group_impl_Group__impl_GroupHunks_1.E slices_IndexFunc_Limpl_Group_impl_Group__impl_GroupHunks_1.T slices_IndexFunc_Limpl_Group_impl_Group__impl_GroupHunks_1.C slices_IndexFunc_Limpl_Group_impl_Group__impl_GroupHunks_1.K 4 slices_IndexFunc_Limpl_Group_impl_Group__impl_GroupHunks_1.D4 (s, f, t7, t8)
noncomputable def slices_IndexFunc_Limpl_Group_impl_Group__impl_GroupHunks_1.f (s : List (Int × Int × List (Int × ByteArray))) (f : List ByteArray) : Option (Int × (List ByteArray)) := Fn slices_IndexFunc_Limpl_Group_impl_Group__impl_GroupHunks_1.E slices_IndexFunc_Limpl_Group_impl_Group__impl_GroupHunks_1.T slices_IndexFunc_Limpl_Group_impl_Group__impl_GroupHunks_1.C slices_IndexFunc_Limpl_Group_impl_Group__impl_GroupHunks_1.P slices_IndexFunc_Limpl_Group_impl_Group__impl_GroupHunks_1.R slices_IndexFunc_Limpl_Group_impl_Group__impl_GroupHunks_1.X (s, f)
theorem slices_IndexFunc_Limpl_Group_impl_Group__impl_GroupHunks_1.l4_eq (s : List (Int × Int × List (Int × ByteArray))) (f : List ByteArray) (t7 : Int) (t8 : Int) : slices_IndexFunc_Limpl_Group_impl_Group__impl_GroupHunks_1.l4 s f t7 t8 =
  (bif (decide (t8 < t7)) then (bif ((decide (0 ≤ t8)) && (decide (t8 < (s.length : Int)))) then ((impl_GroupHunks_1.f (s.getD (t8).toNat (0, 0, ([] : List (Int × ByteArray)))) f).bind fun y25 =>
    bif y25.1 then (some (t8, y25.2)) else
    (slices_IndexFunc_Limpl_Group_impl_Group__impl_GroupHunks_1.l4 s y25.2 t7 (w64 (t8 + 1)))) else none) else (some ((-1), f))) :=
  (fixP_eq slices_IndexFunc_Limpl_Group_impl_Group__impl_GroupHunks_1.E slices_IndexFunc_Limpl_Group_impl_Group__impl_GroupHunks_1.T slices_IndexFunc_Limpl_Group_impl_Group__impl_GroupHunks_1.C slices_IndexFunc_Limpl_Group_impl_Group__impl_GroupHunks_1.K 4 slices_IndexFunc_Limpl_Group_impl_Group__impl_GroupHunks_1.D4 (s, f, t7, t8)).trans (by kernel_rfl)
theorem slices_IndexFunc_Limpl_Group_impl_Group__impl_GroupHunks_1.f_eq (s : List (Int × Int × List (Int × ByteArray))) (f : List ByteArray) : slices_IndexFunc_Limpl_Group_impl_Group__impl_GroupHunks_1.f s f =
  (slices_IndexFunc_Limpl_Group_impl_Group__impl_GroupHunks_1.l4 s f (s.length : Int) 0) := by kernel_rfl
noncomputable def slices_IndexFunc_Limpl_Group_impl_Group__impl_GroupHunks_1.S : Abs.Sum := ⟨slices_IndexFunc_Limpl_Group_impl_Group__impl_GroupHunks_1.P, slices_IndexFunc_Limpl_Group_impl_Group__impl_GroupHunks_1.R, fun _ => Fn slices_IndexFunc_Limpl_Group_impl_Group__impl_GroupHunks_1.E slices_IndexFunc_Limpl_Group_impl_Group__impl_GroupHunks_1.T slices_IndexFunc_Limpl_Group_impl_Group__impl_GroupHunks_1.C slices_IndexFunc_Limpl_Group_impl_Group__impl_GroupHunks_1.P slices_IndexFunc_Limpl_Group_impl_Group__impl_GroupHunks_1.R slices_IndexFunc_Limpl_Group_impl_Group__impl_GroupHunks_1.X⟩
theorem slices_IndexFunc_Limpl_Group_impl_Group__impl_GroupHunks_1.meets : Meets Tryz.prog 85 slices_IndexFunc_Limpl_Group_impl_Group__impl_GroupHunks_1.S := meets_tab (S := slices_IndexFunc_Limpl_Group_impl_Group__impl_GroupHunks_1.U) tabOk_all (AllMeets.cons impl_GroupHunks_1.meets AllMeets.nil) (AllStill.cons (fun _ _ _ => rfl) AllStill.nil) follows (by kernel_rfl : Tryz.prog.funcs[85]? = some Tryz.f85) (by kernel_rfl) (by kernel_rfl) (by kernel_rfl)
noncomputable def slices_ContainsFunc_Limpl_Group_impl_Group__impl_GroupHunks_1.C : Code := Tryz.f65.body.getD .skip
def slices_ContainsFunc_Limpl_Group_impl_Group__impl_GroupHunks_1.P : Par := (.cons (.val (.list (.pair (.int .i64) (.pair (.int .i64) (.one (.list (.pair (.int .i64) (.one .str)))))))) (.cons (.fn 66 (.cons (.box 0 (.list .str)) .nil)) .nil))
noncomputable def slices_ContainsFunc_Limpl_Group_impl_Group__impl_GroupHunks_1.U : SumTab := [(85, [66], slices_IndexFunc_Limpl_Group_impl_Group__impl_GroupHunks_1.S)]
noncomputable def slices_ContainsFunc_Limpl_Group_impl_Group__impl_GroupHunks_1.E : Env := mkEnv TY AR slices_ContainsFunc_Limpl_Group_impl_Group__impl_GroupHunks_1.U
noncomputable def slices_ContainsFunc_Limpl_Group_impl_Group__impl_GroupHunks_1.T : Tab := fun k => look k []
def slices_ContainsFunc_Limpl_Group_impl_Group__impl_GroupHunks_1.R : List (Nat × Ty) := [(0, .bool)]
def slices_ContainsFunc_Limpl_Group_impl_Group__impl_GroupHunks_1.X : List ResultVar := [.tmp 4]
noncomputable def slices_ContainsFunc_Limpl_Group_impl_Group__impl_GroupHunks_1.f (s : List (Int × Int × List (Int × ByteArray))) (f : List ByteArray) : Option (Bool × (List ByteArray)) := Fn slices_ContainsFunc_Limpl_Group_impl_Group__impl_GroupHunks_1.E slices_ContainsFunc_Limpl_Group_impl_Group__impl_GroupHunks_1.T slices_ContainsFunc_Limpl_Group_impl_Group__impl_GroupHunks_1.C slices_ContainsFunc_Limpl_Group_impl_Group__impl_GroupHunks_1.P slices_ContainsFunc_Limpl_Group_impl_Group__impl_GroupHunks_1.R slices_ContainsFunc_Limpl_Group_impl_Group__impl_GroupHunks_1.X (s, f)
theorem slices_ContainsFunc_Limpl_Group_impl_Group__impl_GroupHunks_1.f_eq (s : List (Int × Int × List (Int × ByteArray))) (f : List ByteArray) : slices_ContainsFunc_Limpl_Group_impl_Group__impl_GroupHunks_1.f s f =
  ((slices_IndexFunc_Limpl_Group_impl_Group__impl_GroupHunks_1.f s f).bind fun y25 =>
  some ((decide (y25.1 ≥ 0)), y25.2)) := by kernel_rfl
noncomputable def slices_ContainsFunc_Limpl_Group_impl_Group__impl_GroupHunks_1.S : Abs.Sum := ⟨slices_ContainsFunc_Limpl_Group_impl_Group__impl_GroupHunks_1.P, slices_ContainsFunc_Limpl_Group_impl_Group__impl_GroupHunks_1.R, fun _ => Fn slices_ContainsFunc_Limpl_Group_impl_Group__impl_GroupHunks_1.E slices_ContainsFunc_Limpl_Group_impl_Group__impl_GroupHunks_1.T slices_ContainsFunc_Limpl_Group_impl_Group__impl_GroupHunks_1.C slices_ContainsFunc_Limpl_Group_impl_Group__impl_GroupHunks_1.P slices_ContainsFunc_Limpl_Group_impl_Group__impl_GroupHunks_1.R slices_ContainsFunc_Limpl_Group_impl_Group__impl_GroupHunks_1.X⟩
theorem slices_ContainsFunc_Limpl_Group_impl_Group__impl_GroupHunks_1.meets : Meets Tryz.prog 65 slices_ContainsFunc_Limpl_Group_impl_Group__impl_GroupHunks_1.S := meets_tab (S := slices_ContainsFunc_Limpl_Group_impl_Group__impl_GroupHunks_1.U) tabOk_all (AllMeets.cons slices_IndexFunc_Limpl_Group_impl_Group__impl_GroupHunks_1.meets AllMeets.nil) (AllStill.cons (fun _ _ _ => rfl) AllStill.nil) follows (by kernel_rfl : Tryz.prog.funcs[65]? = some Tryz.f65) (by kernel_rfl) (by kernel_rfl) (by kernel_rfl)
noncomputable def impl_Group_hunks.C : Code := Tryz.f68.body.getD .skip
def impl_Group_hunks.P : Par := (.cons (.val (.pair (.int .i64) (.pair (.int .i64) (.one (.list (.pair (.int .i64) (.one .str))))))) (.cons (.val (.int .i64)) .nil))
noncomputable def impl_Group_hunks.U : SumTab := []
noncomputable def impl_Group_hunks.E : Env := mkEnv TY AR impl_Group_hunks.U
def impl_Group_hunks.D6 : CutD := ⟨[1, 5, 6, 12, 13, 14], (.cons (.val (.int .i64)) (.cons (.own 9 (.pair (.int .i64) (.pair (.int .i64) (.one (.list .str))))) (.cons (.val .bool) (.cons (.val (.list (.pair (.int .i64) (.one .str)))) (.cons (.val (.int .i64)) (.cons (.val (.int .i64)) .nil))))))⟩
def impl_Group_hunks.D21 : CutD := ⟨[1, 5, 6, 8, 12, 13, 14], (.cons (.val (.int .i64)) (.cons (.own 9 (.pair (.int .i64) (.pair (.int .i64) (.one (.list .str))))) (.cons (.val .bool) (.cons (.box 9 (.pair (.int .i64) (.one .str))) (.cons (.val (.list (.pair (.int .i64) (.one .str)))) (.cons (.val (.int .i64)) (.cons (.val (.int .i64)) .nil)))))))⟩
noncomputable def impl_Group_hunks.T : Tab := fun k => look k [(6, impl_Group_hunks.D6), (21, impl_Group_hunks.D21)]
def impl_Group_hunks.R : List (Nat × Ty) := [(9, .list (.pair (.int .i64) (.pair (.int .i64) (.one (.list .str)))))]
def impl_Group_hunks.X : List ResultVar := [.tmp 4]
noncomputable def impl_Group_hunks.K := fin impl_Group_hunks.E ⟨impl_Group_hunks.P, impl_Group_hunks.R, fun _ _ => none⟩ impl_Group_hunks.X impl_Group_hunks.P.len 0
noncomputable def impl_Group_hunks.l6 (t1 : Int) (out : List (Int × Int × List ByteArray)) (running : Bool) (t12 : List (Int × ByteArray)) (t13 : Int) (t14 : Int) : Option ((List (Int × Int × List ByteArray))) := fixP impl_Group_hunks.E impl_Group_hunks.T impl_Group_hunks.C impl_Group_hunks.K 6 impl_Group_hunks.D6 (t1, out, running, t12, t13, t14)
noncomputable def impl_Group_hunks.l21 (t1 : Int) (out : List (Int × Int × List ByteArray)) (running : Bool) (r : Int × ByteArray) (t12 : List (Int × ByteArray)) (t13 : Int) (t14 : Int) : Option ((List (Int × Int × List ByteArray))) := fixP impl_Group_hunks.E impl_Group_hunks.T impl_Group_hunks.C impl_Group_hunks.K 21 impl_Group_hunks.D21 (t1, out, running, r, t12, t13, t14)
noncomputable def impl_Group_hunks.f (g : Int × Int × List (Int × ByteArray)) (t1 : Int) : Option ((List (Int × Int × List ByteArray))) := Fn impl_Group_hunks.E impl_Group_hunks.T impl_Group_hunks.C impl_Group_hunks.P impl_Group_hunks.R impl_Group_hunks.X (g, t1)
theorem impl_Group_hunks.l6_eq (t1 : Int) (out : List (Int × Int × List ByteArray)) (running : Bool) (t12 : List (Int × ByteArray)) (t13 : Int) (t14 : Int) : impl_Group_hunks.l6 t1 out running t12 t13 t14 =
  (bif (decide (t14 < t13)) then (bif ((decide (0 ≤ t14)) && (decide (t14 < (t12.length : Int)))) then (bif (decide ((t12.getD (t14).toNat (0, em)).1 = 1)) then (impl_Group_hunks.l6 (w64 (t1 + 1)) out false t12 t13 (w64 (t14 + 1))) else
    (bif (!running) then (bif (decide ((out.length + [(t1, 0, ([] : List ByteArray))].length) ≤ room 40)) then (impl_Group_hunks.l21 t1 (out ++ [(t1, 0, ([] : List ByteArray))]) true (t12.getD (t14).toNat (0, em)) t12 t13 t14) else none) else
     (impl_Group_hunks.l21 t1 out running (t12.getD (t14).toNat (0, em)) t12 t13 t14))) else none) else (some out)) :=
  (fixP_eq impl_Group_hunks.E impl_Group_hunks.T impl_Group_hunks.C impl_Group_hunks.K 6 impl_Group_hunks.D6 (t1, out, running, t12, t13, t14)).trans (by kernel_rfl)
theorem impl_Group_hunks.l21_eq (t1 : Int) (out : List (Int × Int × List ByteArray)) (running : Bool) (r : Int × ByteArray) (t12 : List (Int × ByteArray)) (t13 : Int) (t14 : Int) : impl_Group_hunks.l21 t1 out running r t12 t13 t14 =
  (bif ((decide (0 ≤ (w64 ((out.length : Int) - 1)))) && (decide ((w64 ((out.length : Int) - 1)) < (out.length : Int)))) then (bif (decide (r.1 = 2)) then (impl_Group_hunks.l6 (w64 (t1 + 1)) (out.set ((w64 ((out.length : Int) - 1))).toNat ((out.getD ((w64 ((out.length : Int) - 1))).toNat (0, 0, ([] : List ByteArray))).1, (w64 ((out.getD ((w64 ((out.length : Int) - 1))).toNat (0, 0, ([] : List ByteArray))).2.1 + 1)), (out.getD ((w64 ((out.length : Int) - 1))).toNat (0, 0, ([] : List ByteArray))).2.2)) running t12 t13 (w64 (t14 + 1))) else
   (bif (decide (((out.getD ((w64 ((out.length : Int) - 1))).toNat (0, 0, ([] : List ByteArray))).2.2.length + [r.2].length) ≤ room 16)) then (bif (decide (((w64 ((out.length : Int) - 1))).toNat = ((w64 ((out.length : Int) - 1))).toNat)) then (impl_Group_hunks.l6 t1 (out.set ((w64 ((out.length : Int) - 1))).toNat ((out.getD ((w64 ((out.length : Int) - 1))).toNat (0, 0, ([] : List ByteArray))).1, (out.getD ((w64 ((out.length : Int) - 1))).toNat (0, 0, ([] : List ByteArray))).2.1, ((out.getD ((w64 ((out.length : Int) - 1))).toNat (0, 0, ([] : List ByteArray))).2.2 ++ [r.2]))) running t12 t13 (w64 (t14 + 1))) else none) else none)) else none) :=
  (fixP_eq impl_Group_hunks.E impl_Group_hunks.T impl_Group_hunks.C impl_Group_hunks.K 21 impl_Group_hunks.D21 (t1, out, running, r, t12, t13, t14)).trans (by kernel_rfl)
theorem impl_Group_hunks.f_eq (g : Int × Int × List (Int × ByteArray)) (t1 : Int) : impl_Group_hunks.f g t1 =
  (impl_Group_hunks.l6 t1 ([] : List (Int × Int × List ByteArray)) false g.2.2 (g.2.2.length : Int) 0) := by kernel_rfl
noncomputable def impl_Group_hunks.S : Abs.Sum := ⟨impl_Group_hunks.P, impl_Group_hunks.R, fun _ => Fn impl_Group_hunks.E impl_Group_hunks.T impl_Group_hunks.C impl_Group_hunks.P impl_Group_hunks.R impl_Group_hunks.X⟩
theorem impl_Group_hunks.meets : Meets Tryz.prog 68 impl_Group_hunks.S := meets_tab (S := impl_Group_hunks.U) tabOk_all AllMeets.nil AllStill.nil follows (by kernel_rfl : Tryz.prog.funcs[68]? = some Tryz.f68) (by kernel_rfl) (by kernel_rfl) (by kernel_rfl)
noncomputable def impl_GroupHunks.C : Code := Tryz.f40.body.getD .skip
def impl_GroupHunks.P : Par := (.cons (.val (.list .str)) (.cons (.val (.list (.pair (.int .i64) (.pair (.int .i64) (.one (.list (.pair (.int .i64) (.one .str)))))))) .nil))
noncomputable def impl_GroupHunks.U : SumTab := [(26, [], impl_goodLines.S), (27, [], impl_goodGroups.S), (65, [66], slices_ContainsFunc_Limpl_Group_impl_Group__impl_GroupHunks_1.S), (30, [], impl_Group_old.S), (67, [], slices_Equal_Lstring_string.S), (68, [], impl_Group_hunks.S), (31, [], impl_Group_fresh.S)]
noncomputable def impl_GroupHunks.E : Env := mkEnv TY AR impl_GroupHunks.U
def impl_GroupHunks.D7 : CutD := ⟨[1, 2], (.cons (.val (.list (.pair (.int .i64) (.pair (.int .i64) (.one (.list (.pair (.int .i64) (.one .str)))))))) (.cons (.box 0 (.list .str)) .nil))⟩
def impl_GroupHunks.D14 : CutD := ⟨[2, 7, 8, 24, 25, 26], (.cons (.box 0 (.list .str)) (.cons (.own 8 (.pair (.int .i64) (.pair (.int .i64) (.one (.list .str))))) (.cons (.val (.int .i64)) (.cons (.val (.list (.pair (.int .i64) (.pair (.int .i64) (.one (.list (.pair (.int .i64) (.one .str)))))))) (.cons (.val (.int .i64)) (.cons (.val (.int .i64)) .nil))))))⟩
def impl_GroupHunks.D25 : CutD := ⟨[2, 7, 8, 10, 11, 24, 25, 26], (.cons (.box 0 (.list .str)) (.cons (.own 8 (.pair (.int .i64) (.pair (.int .i64) (.one (.list .str))))) (.cons (.val (.int .i64)) (.cons (.box 0 (.pair (.int .i64) (.pair (.int .i64) (.one (.list (.pair (.int .i64) (.one .str))))))) (.cons (.own 8 .str) (.cons (.val (.list (.pair (.int .i64) (.pair (.int .i64) (.one (.list (.pair (.int .i64) (.one .str)))))))) (.cons (.val (.int .i64)) (.cons (.val (.int .i64)) .nil))))))))⟩
noncomputable def impl_GroupHunks.T : Tab := fun k => look k [(7, impl_GroupHunks.D7), (14, impl_GroupHunks.D14), (25, impl_GroupHunks.D25)]
def impl_GroupHunks.R : List (Nat × Ty) := [(9, .list (.pair (.int .i64) (.pair (.int .i64) (.one (.list .str))))), (0, .int .i64), (0, .bool)]
def impl_GroupHunks.X : List ResultVar := [.tmp 4, .tmp 5, .tmp 6]
noncomputable def impl_GroupHunks.K := fin impl_GroupHunks.E ⟨impl_GroupHunks.P, impl_GroupHunks.R, fun _ _ => none⟩ impl_GroupHunks.X impl_GroupHunks.P.len 0
noncomputable def impl_GroupHunks.l7 (g : List (Int × Int × List (Int × ByteArray))) (l : List ByteArray) : Option ((List (Int × Int × List ByteArray)) × Int × Bool) := fixP impl_GroupHunks.E impl_GroupHunks.T impl_GroupHunks.C impl_GroupHunks.K 7 impl_GroupHunks.D7 (g, l)
noncomputable def impl_GroupHunks.l14 (l : List ByteArray) (out : List (Int × Int × List ByteArray)) (more : Int) (t24 : List (Int × Int × List (Int × ByteArray))) (t25 : Int) (t26 : Int) : Option ((List (Int × Int × List ByteArray)) × Int × Bool) := fixP impl_GroupHunks.E impl_GroupHunks.T impl_GroupHunks.C impl_GroupHunks.K 14 impl_GroupHunks.D14 (l, out, more, t24, t25, t26)
noncomputable def impl_GroupHunks.l25 (l : List ByteArray) (out : List (Int × Int × List ByteArray)) (more : Int) (x : Int × Int × List (Int × ByteArray)) (a : List ByteArray) (t24 : List (Int × Int × List (Int × ByteArray))) (t25 : Int) (t26 : Int) : Option ((List (Int × Int × List ByteArray)) × Int × Bool) := fixP impl_GroupHunks.E impl_GroupHunks.T impl_GroupHunks.C impl_GroupHunks.K 25 impl_GroupHunks.D25 (l, out, more, x, a, t24, t25, t26)
noncomputable def impl_GroupHunks.f (l : List ByteArray) (g : List (Int × Int × List (Int × ByteArray))) : Option ((List (Int × Int × List ByteArray)) × Int × Bool) := Fn impl_GroupHunks.E impl_GroupHunks.T impl_GroupHunks.C impl_GroupHunks.P impl_GroupHunks.R impl_GroupHunks.X (l, g)
theorem impl_GroupHunks.l7_eq (g : List (Int × Int × List (Int × ByteArray))) (l : List ByteArray) : impl_GroupHunks.l7 g l =
  ((slices_ContainsFunc_Limpl_Group_impl_Group__impl_GroupHunks_1.f g l).bind fun y25 =>
  bif y25.1 then (some (([] : List (Int × Int × List ByteArray)), 3, true)) else
  (impl_GroupHunks.l14 y25.2 ([] : List (Int × Int × List ByteArray)) 0 g (g.length : Int) 0)) :=
  (fixP_eq impl_GroupHunks.E impl_GroupHunks.T impl_GroupHunks.C impl_GroupHunks.K 7 impl_GroupHunks.D7 (g, l)).trans (by kernel_rfl)
theorem impl_GroupHunks.l14_eq (l : List ByteArray) (out : List (Int × Int × List ByteArray)) (more : Int) (t24 : List (Int × Int × List (Int × ByteArray))) (t25 : Int) (t26 : Int) : impl_GroupHunks.l14 l out more t24 t25 t26 =
  (bif (decide (t26 < t25)) then (bif ((decide (0 ≤ t26)) && (decide (t26 < (t24.length : Int)))) then ((impl_Group_old.f (t24.getD (t26).toNat (0, 0, ([] : List (Int × ByteArray))))).bind fun y25 =>
    bif ((decide (0 ≤ (t24.getD (t26).toNat (0, 0, ([] : List (Int × ByteArray)))).1)) && ((decide ((t24.getD (t26).toNat (0, 0, ([] : List (Int × ByteArray)))).1 ≤ (w64 ((t24.getD (t26).toNat (0, 0, ([] : List (Int × ByteArray)))).1 + (y25.length : Int))))) && (decide ((w64 ((t24.getD (t26).toNat (0, 0, ([] : List (Int × ByteArray)))).1 + (y25.length : Int))) ≤ (l.length : Int))))) then ((slices_Equal_Lstring_string.f y25 ((l.take ((w64 ((t24.getD (t26).toNat (0, 0, ([] : List (Int × ByteArray)))).1 + (y25.length : Int)))).toNat).drop ((t24.getD (t26).toNat (0, 0, ([] : List (Int × ByteArray)))).1).toNat)).bind fun y26 =>
     bif (!y26) then (some (([] : List (Int × Int × List ByteArray)), 2, true)) else
     (bif (!(decide ((t24.getD (t26).toNat (0, 0, ([] : List (Int × ByteArray)))).2.1 = (w64 ((t24.getD (t26).toNat (0, 0, ([] : List (Int × ByteArray)))).1 + more))))) then (some (([] : List (Int × Int × List ByteArray)), 2, true)) else
      (impl_GroupHunks.l25 l out more (t24.getD (t26).toNat (0, 0, ([] : List (Int × ByteArray)))) y25 t24 t25 t26))) else none) else none) else (some (out, 0, true))) :=
  (fixP_eq impl_GroupHunks.E impl_GroupHunks.T impl_GroupHunks.C impl_GroupHunks.K 14 impl_GroupHunks.D14 (l, out, more, t24, t25, t26)).trans (by kernel_rfl)
theorem impl_GroupHunks.l25_eq (l : List ByteArray) (out : List (Int × Int × List ByteArray)) (more : Int) (x : Int × Int × List (Int × ByteArray)) (a : List ByteArray) (t24 : List (Int × Int × List (Int × ByteArray))) (t25 : Int) (t26 : Int) : impl_GroupHunks.l25 l out more x a t24 t25 t26 =
  ((impl_Group_hunks.f x x.1).bind fun y25 =>
  bif (decide ((out.length + y25.length) ≤ room 40)) then ((impl_Group_fresh.f x).bind fun y26 =>
   impl_GroupHunks.l14 l (out ++ y25) (w64 (more + (w64 ((y26.length : Int) - (a.length : Int))))) t24 t25 (w64 (t26 + 1))) else none) :=
  (fixP_eq impl_GroupHunks.E impl_GroupHunks.T impl_GroupHunks.C impl_GroupHunks.K 25 impl_GroupHunks.D25 (l, out, more, x, a, t24, t25, t26)).trans (by kernel_rfl)
theorem impl_GroupHunks.f_eq (l : List ByteArray) (g : List (Int × Int × List (Int × ByteArray))) : impl_GroupHunks.f l g =
  ((impl_goodLines.f l).bind fun y25 =>
  bif (!y25) then (some (([] : List (Int × Int × List ByteArray)), 0, false)) else
  ((impl_goodGroups.f g).bind fun y26 =>
   bif (!y26) then (some (([] : List (Int × Int × List ByteArray)), 0, false)) else
   (impl_GroupHunks.l7 g l))) := by kernel_rfl
noncomputable def impl_GroupHunks.S : Abs.Sum := ⟨impl_GroupHunks.P, impl_GroupHunks.R, fun _ => Fn impl_GroupHunks.E impl_GroupHunks.T impl_GroupHunks.C impl_GroupHunks.P impl_GroupHunks.R impl_GroupHunks.X⟩
theorem impl_GroupHunks.meets : Meets Tryz.prog 40 impl_GroupHunks.S := meets_tab (S := impl_GroupHunks.U) tabOk_all (AllMeets.cons impl_goodLines.meets (AllMeets.cons impl_goodGroups.meets (AllMeets.cons slices_ContainsFunc_Limpl_Group_impl_Group__impl_GroupHunks_1.meets (AllMeets.cons impl_Group_old.meets (AllMeets.cons slices_Equal_Lstring_string.meets (AllMeets.cons impl_Group_hunks.meets (AllMeets.cons impl_Group_fresh.meets AllMeets.nil))))))) (AllStill.cons (fun _ _ _ => rfl) (AllStill.cons (fun _ _ _ => rfl) (AllStill.cons (fun _ _ _ => rfl) (AllStill.cons (fun _ _ _ => rfl) (AllStill.cons (fun _ _ _ => rfl) (AllStill.cons (fun _ _ _ => rfl) (AllStill.cons (fun _ _ _ => rfl) AllStill.nil))))))) follows (by kernel_rfl : Tryz.prog.funcs[40]? = some Tryz.f40) (by kernel_rfl) (by kernel_rfl) (by kernel_rfl)
noncomputable def impl_goodHunks.C : Code := Tryz.f69.body.getD .skip
def impl_goodHunks.P : Par := (.cons (.val (.int .i64)) (.cons (.val (.list (.pair (.int .i64) (.pair (.int .i64) (.one (.list .str)))))) .nil))
noncomputable def impl_goodHunks.U : SumTab := [(59, [], impl_in.S), (45, [], impl_areLines.S)]
noncomputable def impl_goodHunks.E : Env := mkEnv TY AR impl_goodHunks.U
def impl_goodHunks.D7 : CutD := ⟨[0, 1], (.cons (.val (.int .i64)) (.cons (.val (.list (.pair (.int .i64) (.pair (.int .i64) (.one (.list .str)))))) .nil))⟩
def impl_goodHunks.D8 : CutD := ⟨[0, 1, 15, 16, 17], (.cons (.val (.int .i64)) (.cons (.val (.list (.pair (.int .i64) (.pair (.int .i64) (.one (.list .str)))))) (.cons (.val (.list (.pair (.int .i64) (.pair (.int .i64) (.one (.list .str)))))) (.cons (.val (.int .i64)) (.cons (.val (.int .i64)) .nil)))))⟩
def impl_goodHunks.D17 : CutD := ⟨[0, 1, 5, 6, 15, 16, 17], (.cons (.val (.int .i64)) (.cons (.val (.list (.pair (.int .i64) (.pair (.int .i64) (.one (.list .str)))))) (.cons (.val (.int .i64)) (.cons (.box 0 (.pair (.int .i64) (.pair (.int .i64) (.one (.list .str))))) (.cons (.val (.list (.pair (.int .i64) (.pair (.int .i64) (.one (.list .str)))))) (.cons (.val (.int .i64)) (.cons (.val (.int .i64)) .nil)))))))⟩
noncomputable def impl_goodHunks.T : Tab := fun k => look k [(7, impl_goodHunks.D7), (8, impl_goodHunks.D8), (17, impl_goodHunks.D17)]
def impl_goodHunks.R : List (Nat × Ty) := [(0, .bool)]
def impl_goodHunks.X : List ResultVar := [.tmp 4]
noncomputable def impl_goodHunks.K := fin impl_goodHunks.E ⟨impl_goodHunks.P, impl_goodHunks.R, fun _ _ => none⟩ impl_goodHunks.X impl_goodHunks.P.len 0
noncomputable def impl_goodHunks.l7 (many : Int) (h : List (Int × Int × List ByteArray)) : Option (Bool) := fixP impl_goodHunks.E impl_goodHunks.T impl_goodHunks.C impl_goodHunks.K 7 impl_goodHunks.D7 (many, h)
noncomputable def impl_goodHunks.l8 (many : Int) (h : List (Int × Int × List ByteArray)) (t15 : List (Int × Int × List ByteArray)) (t16 : Int) (t17 : Int) : Option (Bool) := fixP impl_goodHunks.E impl_goodHunks.T impl_goodHunks.C impl_goodHunks.K 8 impl_goodHunks.D8 (many, h, t15, t16, t17)
noncomputable def impl_goodHunks.l17 (many : Int) (h : List (Int × Int × List ByteArray)) (i : Int) (x : Int × Int × List ByteArray) (t15 : List (Int × Int × List ByteArray)) (t16 : Int) (t17 : Int) : Option (Bool) := fixP impl_goodHunks.E impl_goodHunks.T impl_goodHunks.C impl_goodHunks.K 17 impl_goodHunks.D17 (many, h, i, x, t15, t16, t17)
noncomputable def impl_goodHunks.f (many : Int) (h : List (Int × Int × List ByteArray)) : Option (Bool) := Fn impl_goodHunks.E impl_goodHunks.T impl_goodHunks.C impl_goodHunks.P impl_goodHunks.R impl_goodHunks.X (many, h)
theorem impl_goodHunks.l7_eq (many : Int) (h : List (Int × Int × List ByteArray)) : impl_goodHunks.l7 many h =
  (impl_goodHunks.l8 many h h (h.length : Int) 0) :=
  (fixP_eq impl_goodHunks.E impl_goodHunks.T impl_goodHunks.C impl_goodHunks.K 7 impl_goodHunks.D7 (many, h)).trans (by kernel_rfl)
theorem impl_goodHunks.l8_eq (many : Int) (h : List (Int × Int × List ByteArray)) (t15 : List (Int × Int × List ByteArray)) (t16 : Int) (t17 : Int) : impl_goodHunks.l8 many h t15 t16 t17 =
  (bif (decide (t17 < t16)) then (bif ((decide (0 ≤ t17)) && (decide (t17 < (t15.length : Int)))) then ((impl_in.f (t15.getD (t17).toNat (0, 0, ([] : List ByteArray))).1 0 many).bind fun y25 =>
    bif (!y25) then (some false) else
    ((impl_in.f (t15.getD (t17).toNat (0, 0, ([] : List ByteArray))).2.1 0 (w64 (many - (t15.getD (t17).toNat (0, 0, ([] : List ByteArray))).1))).bind fun y26 =>
     bif (!y26) then (some false) else
     ((impl_areLines.f (t15.getD (t17).toNat (0, 0, ([] : List ByteArray))).2.2).bind fun y27 =>
      bif (!y27) then (some false) else
      (bif (decide ((t15.getD (t17).toNat (0, 0, ([] : List ByteArray))).2.1 = 0)) then (bif (decide (((t15.getD (t17).toNat (0, 0, ([] : List ByteArray))).2.2.length : Int) = 0)) then (some false) else
        (impl_goodHunks.l17 many h t17 (t15.getD (t17).toNat (0, 0, ([] : List ByteArray))) t15 t16 t17)) else
       (impl_goodHunks.l17 many h t17 (t15.getD (t17).toNat (0, 0, ([] : List ByteArray))) t15 t16 t17))))) else none) else (some true)) :=
  (fixP_eq impl_goodHunks.E impl_goodHunks.T impl_goodHunks.C impl_goodHunks.K 8 impl_goodHunks.D8 (many, h, t15, t16, t17)).trans (by kernel_rfl)
theorem impl_goodHunks.l17_eq (many : Int) (h : List (Int × Int × List ByteArray)) (i : Int) (x : Int × Int × List ByteArray) (t15 : List (Int × Int × List ByteArray)) (t16 : Int) (t17 : Int) : impl_goodHunks.l17 many h i x t15 t16 t17 =
  (bif (decide (i > 0)) then (bif ((decide (0 ≤ (w64 (i - 1)))) && (decide ((w64 (i - 1)) < (h.length : Int)))) then (bif ((decide (0 ≤ (w64 (i - 1)))) && (decide ((w64 (i - 1)) < (h.length : Int)))) then (bif (decide (x.1 ≤ (w64 ((h.getD ((w64 (i - 1))).toNat (0, 0, ([] : List ByteArray))).1 + (h.getD ((w64 (i - 1))).toNat (0, 0, ([] : List ByteArray))).2.1)))) then (some false) else
     (impl_goodHunks.l8 many h t15 t16 (w64 (t17 + 1)))) else none) else none) else
  (impl_goodHunks.l8 many h t15 t16 (w64 (t17 + 1)))) :=
  (fixP_eq impl_goodHunks.E impl_goodHunks.T impl_goodHunks.C impl_goodHunks.K 17 impl_goodHunks.D17 (many, h, i, x, t15, t16, t17)).trans (by kernel_rfl)
theorem impl_goodHunks.f_eq (many : Int) (h : List (Int × Int × List ByteArray)) : impl_goodHunks.f many h =
  ((impl_in.f many 0 40).bind fun y25 =>
  bif (!y25) then (some false) else
  (bif (decide ((h.length : Int) > 20)) then (some false) else
   (impl_goodHunks.l7 many h))) := by kernel_rfl
noncomputable def impl_goodHunks.S : Abs.Sum := ⟨impl_goodHunks.P, impl_goodHunks.R, fun _ => Fn impl_goodHunks.E impl_goodHunks.T impl_goodHunks.C impl_goodHunks.P impl_goodHunks.R impl_goodHunks.X⟩
theorem impl_goodHunks.meets : Meets Tryz.prog 69 impl_goodHunks.S := meets_tab (S := impl_goodHunks.U) tabOk_all (AllMeets.cons impl_in.meets (AllMeets.cons impl_areLines.meets AllMeets.nil)) (AllStill.cons (fun _ _ _ => rfl) (AllStill.cons (fun _ _ _ => rfl) AllStill.nil)) follows (by kernel_rfl : Tryz.prog.funcs[69]? = some Tryz.f69) (by kernel_rfl) (by kernel_rfl) (by kernel_rfl)
noncomputable def impl_patched.C : Code := Tryz.f70.body.getD .skip
def impl_patched.P : Par := (.cons (.val (.list .str)) (.cons (.val (.list (.pair (.int .i64) (.pair (.int .i64) (.one (.list .str)))))) .nil))
noncomputable def impl_patched.U : SumTab := []
noncomputable def impl_patched.E : Env := mkEnv TY AR impl_patched.U
def impl_patched.D6 : CutD := ⟨[0, 5, 6, 10, 11, 12], (.cons (.val (.list .str)) (.cons (.own 9 .str) (.cons (.val (.int .i64)) (.cons (.val (.list (.pair (.int .i64) (.pair (.int .i64) (.one (.list .str)))))) (.cons (.val (.int .i64)) (.cons (.val (.int .i64)) .nil))))))⟩
noncomputable def impl_patched.T : Tab := fun k => look k [(6, impl_patched.D6)]
def impl_patched.R : List (Nat × Ty) := [(9, .list .str)]
def impl_patched.X : List ResultVar := [.tmp 4]
noncomputable def impl_patched.K := fin impl_patched.E ⟨impl_patched.P, impl_patched.R, fun _ _ => none⟩ impl_patched.X impl_patched.P.len 0
noncomputable def impl_patched.l6 (l : List ByteArray) (out : List ByteArray) (t6 : Int) (t10 : List (Int × Int × List ByteArray)) (t11 : Int) (t12 : Int) : Option ((List ByteArray)) := fixP impl_patched.E impl_patched.T impl_patched.C impl_patched.K 6 impl_patched.D6 (l, out, t6, t10, t11, t12)
noncomputable def impl_patched.f (l : List ByteArray) (h : List (Int × Int × List ByteArray)) : Option ((List ByteArray)) := Fn impl_patched.E impl_patched.T impl_patched.C impl_patched.P impl_patched.R impl_patched.X (l, h)
theorem impl_patched.l6_eq (l : List ByteArray) (out : List ByteArray) (t6 : Int) (t10 : List (Int × Int × List ByteArray)) (t11 : Int) (t12 : Int) : impl_patched.l6 l out t6 t10 t11 t12 =
  (bif (decide (t12 < t11)) then (bif ((decide (0 ≤ t12)) && (decide (t12 < (t10.length : Int)))) then (bif ((decide (0 ≤ t6)) && ((decide (t6 ≤ (t10.getD (t12).toNat (0, 0, ([] : List ByteArray))).1)) && (decide ((t10.getD (t12).toNat (0, 0, ([] : List ByteArray))).1 ≤ (l.length : Int))))) then (bif (decide ((out.length + ((l.take ((t10.getD (t12).toNat (0, 0, ([] : List ByteArray))).1).toNat).drop (t6).toNat).length) ≤ room 16)) then (bif (decide (((out ++ ((l.take ((t10.getD (t12).toNat (0, 0, ([] : List ByteArray))).1).toNat).drop (t6).toNat)).length + (t10.getD (t12).toNat (0, 0, ([] : List ByteArray))).2.2.length) ≤ room 16)) then (impl_patched.l6 l ((out ++ ((l.take ((t10.getD (t12).toNat (0, 0, ([] : List ByteArray))).1).toNat).drop (t6).toNat)) ++ (t10.getD (t12).toNat (0, 0, ([] : List ByteArray))).2.2) (w64 ((t10.getD (t12).toNat (0, 0, ([] : List ByteArray))).1 + (t10.getD (t12).toNat (0, 0, ([] : List ByteArray))).2.1)) t10 t11 (w64 (t12 + 1))) else none) else none) else none) else none) else
  (bif ((decide (0 ≤ t6)) && (decide (t6 ≤ (l.length : Int)))) then (bif (decide ((out.length + (l.drop (t6).toNat).length) ≤ room 16)) then (some (out ++ (l.drop (t6).toNat))) else none) else none)) :=
  (fixP_eq impl_patched.E impl_patched.T impl_patched.C impl_patched.K 6 impl_patched.D6 (l, out, t6, t10, t11, t12)).trans (by kernel_rfl)
theorem impl_patched.f_eq (l : List ByteArray) (h : List (Int × Int × List ByteArray)) : impl_patched.f l h =
  (impl_patched.l6 l ([] : List ByteArray) 0 h (h.length : Int) 0) := by kernel_rfl
noncomputable def impl_patched.S : Abs.Sum := ⟨impl_patched.P, impl_patched.R, fun _ => Fn impl_patched.E impl_patched.T impl_patched.C impl_patched.P impl_patched.R impl_patched.X⟩
theorem impl_patched.meets : Meets Tryz.prog 70 impl_patched.S := meets_tab (S := impl_patched.U) tabOk_all AllMeets.nil AllStill.nil follows (by kernel_rfl : Tryz.prog.funcs[70]? = some Tryz.f70) (by kernel_rfl) (by kernel_rfl) (by kernel_rfl)
noncomputable def impl_Patch.C : Code := Tryz.f41.body.getD .skip
def impl_Patch.P : Par := (.cons (.val (.list .str)) (.cons (.val (.list (.pair (.int .i64) (.pair (.int .i64) (.one (.list .str)))))) .nil))
noncomputable def impl_Patch.U : SumTab := [(26, [], impl_goodLines.S), (69, [], impl_goodHunks.S), (70, [], impl_patched.S)]
noncomputable def impl_Patch.E : Env := mkEnv TY AR impl_Patch.U
def impl_Patch.D7 : CutD := ⟨[0, 1], (.cons (.val (.list .str)) (.cons (.val (.list (.pair (.int .i64) (.pair (.int .i64) (.one (.list .str)))))) .nil))⟩
noncomputable def impl_Patch.T : Tab := fun k => look k [(7, impl_Patch.D7)]
def impl_Patch.R : List (Nat × Ty) := [(9, .list .str), (0, .bool)]
def impl_Patch.X : List ResultVar := [.tmp 4, .tmp 5]
noncomputable def impl_Patch.K := fin impl_Patch.E ⟨impl_Patch.P, impl_Patch.R, fun _ _ => none⟩ impl_Patch.X impl_Patch.P.len 0
noncomputable def impl_Patch.l7 (l : List ByteArray) (h : List (Int × Int × List ByteArray)) : Option ((List ByteArray) × Bool) := fixP impl_Patch.E impl_Patch.T impl_Patch.C impl_Patch.K 7 impl_Patch.D7 (l, h)
noncomputable def impl_Patch.f (l : List ByteArray) (h : List (Int × Int × List ByteArray)) : Option ((List ByteArray) × Bool) := Fn impl_Patch.E impl_Patch.T impl_Patch.C impl_Patch.P impl_Patch.R impl_Patch.X (l, h)
theorem impl_Patch.l7_eq (l : List ByteArray) (h : List (Int × Int × List ByteArray)) : impl_Patch.l7 l h =
  ((impl_patched.f l h).bind fun y25 =>
  (impl_goodLines.f y25).bind fun y26 =>
  bif (!y26) then (some (([] : List ByteArray), false)) else (some (y25, true))) :=
  (fixP_eq impl_Patch.E impl_Patch.T impl_Patch.C impl_Patch.K 7 impl_Patch.D7 (l, h)).trans (by kernel_rfl)
theorem impl_Patch.f_eq (l : List ByteArray) (h : List (Int × Int × List ByteArray)) : impl_Patch.f l h =
  ((impl_goodLines.f l).bind fun y25 =>
  bif (!y25) then (some (([] : List ByteArray), false)) else
  ((impl_goodHunks.f (l.length : Int) h).bind fun y26 =>
   bif (!y26) then (some (([] : List ByteArray), false)) else
   (impl_Patch.l7 l h))) := by kernel_rfl
noncomputable def impl_Patch.S : Abs.Sum := ⟨impl_Patch.P, impl_Patch.R, fun _ => Fn impl_Patch.E impl_Patch.T impl_Patch.C impl_Patch.P impl_Patch.R impl_Patch.X⟩
theorem impl_Patch.meets : Meets Tryz.prog 41 impl_Patch.S := meets_tab (S := impl_Patch.U) tabOk_all (AllMeets.cons impl_goodLines.meets (AllMeets.cons impl_goodHunks.meets (AllMeets.cons impl_patched.meets AllMeets.nil))) (AllStill.cons (fun _ _ _ => rfl) (AllStill.cons (fun _ _ _ => rfl) (AllStill.cons (fun _ _ _ => rfl) AllStill.nil))) follows (by kernel_rfl : Tryz.prog.funcs[41]? = some Tryz.f41) (by kernel_rfl) (by kernel_rfl) (by kernel_rfl)
noncomputable def impl_ApplyGroups.C : Code := Tryz.f10.body.getD .skip
def impl_ApplyGroups.P : Par := (.cons (.val (.list .str)) (.cons (.val (.list (.pair (.int .i64) (.pair (.int .i64) (.one (.list (.pair (.int .i64) (.one .str)))))))) .nil))
noncomputable def impl_ApplyGroups.U : SumTab := [(40, [], impl_GroupHunks.S), (41, [], impl_Patch.S)]
noncomputable def impl_ApplyGroups.E : Env := mkEnv TY AR impl_ApplyGroups.U
def impl_ApplyGroups.D9 : CutD := ⟨[0, 7], (.cons (.val (.list .str)) (.cons (.own 8 (.pair (.int .i64) (.pair (.int .i64) (.one (.list .str))))) .nil))⟩
noncomputable def impl_ApplyGroups.T : Tab := fun k => look k [(9, impl_ApplyGroups.D9)]
def impl_ApplyGroups.R : List (Nat × Ty) := [(9, .list .str), (0, .int .i64), (0, .bool)]
def impl_ApplyGroups.X : List ResultVar := [.tmp 4, .tmp 5, .tmp 6]
noncomputable def impl_ApplyGroups.K := fin impl_ApplyGroups.E ⟨impl_ApplyGroups.P, impl_ApplyGroups.R, fun _ _ => none⟩ impl_ApplyGroups.X impl_ApplyGroups.P.len 0
noncomputable def impl_ApplyGroups.l9 (l : List ByteArray) (h : List (Int × Int × List ByteArray)) : Option ((List ByteArray) × Int × Bool) := fixP impl_ApplyGroups.E impl_ApplyGroups.T impl_ApplyGroups.C impl_ApplyGroups.K 9 impl_ApplyGroups.D9 (l, h)
noncomputable def impl_ApplyGroups.f (l : List ByteArray) (g : List (Int × Int × List (Int × ByteArray))) : Option ((List ByteArray) × Int × Bool) := Fn impl_ApplyGroups.E impl_ApplyGroups.T impl_ApplyGroups.C impl_ApplyGroups.P impl_ApplyGroups.R impl_ApplyGroups.X (l, g)
theorem impl_ApplyGroups.l9_eq (l : List ByteArray) (h : List (Int × Int × List ByteArray)) : impl_ApplyGroups.l9 l h =
  ((impl_Patch.f l h).bind fun y25 =>
  bif (!y25.2) then (some (([] : List ByteArray), 2, true)) else (some (y25.1, 0, true))) :=
  (fixP_eq impl_ApplyGroups.E impl_ApplyGroups.T impl_ApplyGroups.C impl_ApplyGroups.K 9 impl_ApplyGroups.D9 (l, h)).trans (by kernel_rfl)
theorem impl_ApplyGroups.f_eq (l : List ByteArray) (g : List (Int × Int × List (Int × ByteArray))) : impl_ApplyGroups.f l g =
  ((impl_GroupHunks.f l g).bind fun y25 =>
  bif (!y25.2.2) then (some (([] : List ByteArray), y25.2.1, y25.2.2)) else
  (bif (!(decide (y25.2.1 = 0))) then (some (([] : List ByteArray), y25.2.1, y25.2.2)) else
   (impl_ApplyGroups.l9 l y25.1))) := by kernel_rfl
noncomputable def impl_ApplyGroups.S : Abs.Sum := ⟨impl_ApplyGroups.P, impl_ApplyGroups.R, fun _ => Fn impl_ApplyGroups.E impl_ApplyGroups.T impl_ApplyGroups.C impl_ApplyGroups.P impl_ApplyGroups.R impl_ApplyGroups.X⟩
theorem impl_ApplyGroups.meets : Meets Tryz.prog 10 impl_ApplyGroups.S := meets_tab (S := impl_ApplyGroups.U) tabOk_all (AllMeets.cons impl_GroupHunks.meets (AllMeets.cons impl_Patch.meets AllMeets.nil)) (AllStill.cons (fun _ _ _ => rfl) (AllStill.cons (fun _ _ _ => rfl) AllStill.nil)) follows (by kernel_rfl : Tryz.prog.funcs[10]? = some Tryz.f10) (by kernel_rfl) (by kernel_rfl) (by kernel_rfl)
noncomputable def spec_DrawGoodGroups.C : Code := Tryz.f75.body.getD .skip
def spec_DrawGoodGroups.P : Par := (.cons (.val (.list (.int .u8))) .nil)
noncomputable def spec_DrawGoodGroups.U : SumTab := [(22, [], spec_l1Cur_groups.S)]
noncomputable def spec_DrawGoodGroups.E : Env := mkEnv TY AR spec_DrawGoodGroups.U
noncomputable def spec_DrawGoodGroups.T : Tab := fun k => look k []
def spec_DrawGoodGroups.R : List (Nat × Ty) := [(9, .list (.pair (.int .i64) (.pair (.int .i64) (.one (.list (.pair (.int .i64) (.one .str)))))))]
def spec_DrawGoodGroups.X : List ResultVar := [.tmp 2]
noncomputable def spec_DrawGoodGroups.f (code : List Int) : Option ((List (Int × Int × List (Int × ByteArray)))) := Fn spec_DrawGoodGroups.E spec_DrawGoodGroups.T spec_DrawGoodGroups.C spec_DrawGoodGroups.P spec_DrawGoodGroups.R spec_DrawGoodGroups.X code
theorem spec_DrawGoodGroups.f_eq (code : List Int) : spec_DrawGoodGroups.f code =
  ((spec_l1Cur_groups.f (code, 0, 0)).bind fun y25 =>
  some y25.2.1) := by kernel_rfl
noncomputable def spec_DrawGoodGroups.S : Abs.Sum := ⟨spec_DrawGoodGroups.P, spec_DrawGoodGroups.R, fun _ => Fn spec_DrawGoodGroups.E spec_DrawGoodGroups.T spec_DrawGoodGroups.C spec_DrawGoodGroups.P spec_DrawGoodGroups.R spec_DrawGoodGroups.X⟩
theorem spec_DrawGoodGroups.meets : Meets Tryz.prog 75 spec_DrawGoodGroups.S := meets_tab (S := spec_DrawGoodGroups.U) tabOk_all (AllMeets.cons spec_l1Cur_groups.meets AllMeets.nil) (AllStill.cons (fun _ _ _ => rfl) AllStill.nil) follows (by kernel_rfl : Tryz.prog.funcs[75]? = some Tryz.f75) (by kernel_rfl) (by kernel_rfl) (by kernel_rfl)
noncomputable def spec_DrawOldOf.C : Code := Tryz.f46.body.getD .skip
def spec_DrawOldOf.P : Par := (.cons (.val (.list (.int .u8))) .nil)
noncomputable def spec_DrawOldOf.U : SumTab := [(75, [], spec_DrawGoodGroups.S)]
def spec_DrawOldOf.Z : List (Nat × List Nat) := [(4, [3])]
noncomputable def spec_DrawOldOf.E : Env := mkEnvZ TY AR spec_DrawOldOf.U spec_DrawOldOf.Z
noncomputable def spec_DrawOldOf.T : Tab := fun k => look k []
def spec_DrawOldOf.R : List (Nat × Ty) := [(0, .pair (.int .i64) (.pair (.int .i64) (.one (.list (.pair (.int .i64) (.one .str))))))]
def spec_DrawOldOf.X : List ResultVar := [.cell 2 37]
noncomputable def spec_DrawOldOf.f (code : List Int) : Option ((Int × Int × List (Int × ByteArray))) := Fn spec_DrawOldOf.E spec_DrawOldOf.T spec_DrawOldOf.C spec_DrawOldOf.P spec_DrawOldOf.R spec_DrawOldOf.X code
theorem spec_DrawOldOf.f_eq (code : List Int) : spec_DrawOldOf.f code =
  ((spec_DrawGoodGroups.f code).bind fun y28 =>
  bif (decide ((y28.length : Int) = 0)) then (some (0, 0, [(3, (⟨#[97, 10]⟩ : ByteArray))])) else
  (bif (decide (0 < (y28.length : Int))) then (some (y28.getD 0 (0, 0, ([] : List (Int × ByteArray))))) else none)) := by kernel_rfl
noncomputable def spec_DrawOldOf.S : Abs.Sum := ⟨spec_DrawOldOf.P, spec_DrawOldOf.R, fun _ => Fn spec_DrawOldOf.E spec_DrawOldOf.T spec_DrawOldOf.C spec_DrawOldOf.P spec_DrawOldOf.R spec_DrawOldOf.X⟩
theorem spec_DrawOldOf.meets : Meets Tryz.prog 46 spec_DrawOldOf.S := meets_tabZ spec_DrawOldOf.Z (S := spec_DrawOldOf.U) tabOk_all (AllMeets.cons spec_DrawGoodGroups.meets AllMeets.nil) (AllStill.cons (fun _ _ _ => rfl) AllStill.nil) follows (by kernel_rfl : Tryz.prog.funcs[46]? = some Tryz.f46) (by kernel_rfl) (by kernel_rfl) (by kernel_rfl)
noncomputable def spec_DrawFitsAt.C : Code := Tryz.f18.body.getD .skip
def spec_DrawFitsAt.P : Par := (.cons (.val (.list (.int .u8))) .nil)
noncomputable def spec_DrawFitsAt.U : SumTab := [(22, [], spec_l1Cur_groups.S), (46, [], spec_DrawOldOf.S), (47, [], spec_l1Cur_pick.S)]
def spec_DrawFitsAt.Z : List (Nat × List Nat) := [(5, [7])]
noncomputable def spec_DrawFitsAt.E : Env := mkEnvZ TY AR spec_DrawFitsAt.U spec_DrawFitsAt.Z
noncomputable def spec_DrawFitsAt.T : Tab := fun k => look k []
def spec_DrawFitsAt.R : List (Nat × Ty) := [(0, .list .str), (0, .pair (.int .i64) (.pair (.int .i64) (.one (.list (.pair (.int .i64) (.one .str)))))), (0, .int .i64)]
def spec_DrawFitsAt.X : List ResultVar := [.tmp 2, .cell 3 37, .tmp 4]
noncomputable def spec_DrawFitsAt.f (code : List Int) : Option ((List ByteArray) × (Int × Int × List (Int × ByteArray)) × Int) := Fn spec_DrawFitsAt.E spec_DrawFitsAt.T spec_DrawFitsAt.C spec_DrawFitsAt.P spec_DrawFitsAt.R spec_DrawFitsAt.X code
theorem spec_DrawFitsAt.f_eq (code : List Int) : spec_DrawFitsAt.f code =
  ((spec_l1Cur_groups.f (code, 0, 0)).bind fun y73 =>
  bif (decide ((y73.2.1.length : Int) = 0)) then ((spec_DrawOldOf.f code).bind fun y74 =>
   (spec_l1Cur_pick.f y73.2.2 4).bind fun y75 =>
   some (y73.1, y74, y75.1)) else
  (bif (decide (0 < (y73.2.1.length : Int))) then (bif (decide (0 < (y73.2.1.length : Int))) then ((spec_l1Cur_pick.f y73.2.2 4).bind fun y74 =>
     (spec_l1Cur_pick.f y74.2 4).bind fun y75 =>
     some (y73.1, (y73.2.1.getD 0 (0, 0, ([] : List (Int × ByteArray)))), (w64 ((w64 ((y73.2.1.getD 0 (0, 0, ([] : List (Int × ByteArray)))).1 + y74.1)) - y75.1)))) else none) else none)) := by kernel_rfl
noncomputable def spec_DrawFitsAt.S : Abs.Sum := ⟨spec_DrawFitsAt.P, spec_DrawFitsAt.R, fun _ => Fn spec_DrawFitsAt.E spec_DrawFitsAt.T spec_DrawFitsAt.C spec_DrawFitsAt.P spec_DrawFitsAt.R spec_DrawFitsAt.X⟩
theorem spec_DrawFitsAt.meets : Meets Tryz.prog 18 spec_DrawFitsAt.S := meets_tabZ spec_DrawFitsAt.Z (S := spec_DrawFitsAt.U) tabOk_all (AllMeets.cons spec_l1Cur_groups.meets (AllMeets.cons spec_DrawOldOf.meets (AllMeets.cons spec_l1Cur_pick.meets AllMeets.nil))) (AllStill.cons (fun _ _ _ => rfl) (AllStill.cons (fun _ _ _ => rfl) (AllStill.cons (fun _ _ _ => rfl) AllStill.nil))) follows (by kernel_rfl : Tryz.prog.funcs[18]? = some Tryz.f18) (by kernel_rfl) (by kernel_rfl) (by kernel_rfl)
noncomputable def spec_DrawNearFit.C : Code := Tryz.f11.body.getD .skip
def spec_DrawNearFit.P : Par := (.cons (.val (.list (.int .u8))) .nil)
noncomputable def spec_DrawNearFit.U : SumTab := [(18, [], spec_DrawFitsAt.S), (24, [], spec_l1Good.S), (23, [], spec_l1Cur_one.S), (25, [], spec_l1Cur_among.S)]
noncomputable def spec_DrawNearFit.E : Env := mkEnv TY AR spec_DrawNearFit.U
def spec_DrawNearFit.D11 : CutD := ⟨[3, 5, 6, 7], (.cons (.box 9 (.pair (.int .i64) (.pair (.int .i64) (.one (.list (.pair (.int .i64) (.one .str))))))) (.cons (.box 0 (.pair (.list (.int .u8)) (.pair (.int .i64) (.one (.int .u64))))) (.cons (.val (.list .str)) (.cons (.box 0 (.pair (.int .i64) (.pair (.int .i64) (.one (.list (.pair (.int .i64) (.one .str))))))) .nil))))⟩
noncomputable def spec_DrawNearFit.T : Tab := fun k => look k [(11, spec_DrawNearFit.D11)]
def spec_DrawNearFit.R : List (Nat × Ty) := [(0, .list .str), (0, .pair (.int .i64) (.pair (.int .i64) (.one (.list (.pair (.int .i64) (.one .str)))))), (0, .int .i64)]
def spec_DrawNearFit.X : List ResultVar := [.tmp 2, .cell 3 37, .tmp 4]
noncomputable def spec_DrawNearFit.K := fin spec_DrawNearFit.E ⟨spec_DrawNearFit.P, spec_DrawNearFit.R, fun _ _ => none⟩ spec_DrawNearFit.X spec_DrawNearFit.P.len 0
noncomputable def spec_DrawNearFit.l11 (t3 : Int × Int × List (Int × ByteArray)) (c : (List Int) × Int × Int) (l : List ByteArray) (g : Int × Int × List (Int × ByteArray)) : Option ((List ByteArray) × (Int × Int × List (Int × ByteArray)) × Int) := fixP spec_DrawNearFit.E spec_DrawNearFit.T spec_DrawNearFit.C spec_DrawNearFit.K 11 spec_DrawNearFit.D11 (t3, c, l, g)
noncomputable def spec_DrawNearFit.f (code : List Int) : Option ((List ByteArray) × (Int × Int × List (Int × ByteArray)) × Int) := Fn spec_DrawNearFit.E spec_DrawNearFit.T spec_DrawNearFit.C spec_DrawNearFit.P spec_DrawNearFit.R spec_DrawNearFit.X code
theorem spec_DrawNearFit.l11_eq (t3 : Int × Int × List (Int × ByteArray)) (c : (List Int) × Int × Int) (l : List ByteArray) (g : Int × Int × List (Int × ByteArray)) : spec_DrawNearFit.l11 t3 c l g =
  ((spec_l1Cur_among.f c [0, 1, 2, 5, 40, 41, (-1)]).bind fun y88 =>
  some (l, g, y88.1)) :=
  (fixP_eq spec_DrawNearFit.E spec_DrawNearFit.T spec_DrawNearFit.C spec_DrawNearFit.K 11 spec_DrawNearFit.D11 (t3, c, l, g)).trans (by kernel_rfl)
theorem spec_DrawNearFit.f_eq (code : List Int) : spec_DrawNearFit.f code =
  ((spec_DrawFitsAt.f code).bind fun y88 =>
  (spec_l1Good.f y88.1).bind fun y89 =>
  bif y89 then ((spec_l1Cur_one.f (code, 0, 0) 2).bind fun y90 =>
   bif y90.1 then (bif (decide (([(⟨#[110, 101, 119, 10]⟩ : ByteArray)].length + y88.1.length) ≤ room 16)) then (spec_DrawNearFit.l11 (0, 0, ([] : List (Int × ByteArray))) y90.2 ([(⟨#[110, 101, 119, 10]⟩ : ByteArray)] ++ y88.1) y88.2.1) else none) else
   (spec_DrawNearFit.l11 (0, 0, ([] : List (Int × ByteArray))) y90.2 y88.1 y88.2.1)) else
  (spec_DrawNearFit.l11 (0, 0, ([] : List (Int × ByteArray))) (code, 0, 0) y88.1 y88.2.1)) := by kernel_rfl
noncomputable def spec_DrawNearFit.S : Abs.Sum := ⟨spec_DrawNearFit.P, spec_DrawNearFit.R, fun _ => Fn spec_DrawNearFit.E spec_DrawNearFit.T spec_DrawNearFit.C spec_DrawNearFit.P spec_DrawNearFit.R spec_DrawNearFit.X⟩
theorem spec_DrawNearFit.meets : Meets Tryz.prog 11 spec_DrawNearFit.S := meets_tab (S := spec_DrawNearFit.U) tabOk_all (AllMeets.cons spec_DrawFitsAt.meets (AllMeets.cons spec_l1Good.meets (AllMeets.cons spec_l1Cur_one.meets (AllMeets.cons spec_l1Cur_among.meets AllMeets.nil)))) (AllStill.cons (fun _ _ _ => rfl) (AllStill.cons (fun _ _ _ => rfl) (AllStill.cons (fun _ _ _ => rfl) (AllStill.cons (fun _ _ _ => rfl) AllStill.nil)))) follows (by kernel_rfl : Tryz.prog.funcs[11]? = some Tryz.f11) (by kernel_rfl) (by kernel_rfl) (by kernel_rfl)
noncomputable def impl_NearFit.C : Code := Tryz.f12.body.getD .skip
def impl_NearFit.P : Par := (.cons (.val (.list .str)) (.cons (.val (.pair (.int .i64) (.pair (.int .i64) (.one (.list (.pair (.int .i64) (.one .str))))))) (.cons (.val (.int .i64)) .nil)))
noncomputable def impl_NearFit.U : SumTab := [(26, [], impl_goodLines.S), (42, [], impl_goodGroup.S), (28, [], impl_isFar.S), (30, [], impl_Group_old.S), (32, [], impl_near.S)]
noncomputable def impl_NearFit.E : Env := mkEnv TY AR impl_NearFit.U
def impl_NearFit.D7 : CutD := ⟨[0, 2, 4], (.cons (.val (.list .str)) (.cons (.val (.int .i64)) (.cons (.box 0 (.pair (.int .i64) (.pair (.int .i64) (.one (.list (.pair (.int .i64) (.one .str))))))) .nil)))⟩
noncomputable def impl_NearFit.T : Tab := fun k => look k [(7, impl_NearFit.D7)]
def impl_NearFit.R : List (Nat × Ty) := [(0, .int .i64), (0, .bool)]
def impl_NearFit.X : List ResultVar := [.tmp 6, .tmp 7]
noncomputable def impl_NearFit.K := fin impl_NearFit.E ⟨impl_NearFit.P, impl_NearFit.R, fun _ _ => none⟩ impl_NearFit.X impl_NearFit.P.len 0
noncomputable def impl_NearFit.l7 (l : List ByteArray) (far : Int) (g : Int × Int × List (Int × ByteArray)) : Option (Int × Bool) := fixP impl_NearFit.E impl_NearFit.T impl_NearFit.C impl_NearFit.K 7 impl_NearFit.D7 (l, far, g)
noncomputable def impl_NearFit.f (l : List ByteArray) (g : Int × Int × List (Int × ByteArray)) (far : Int) : Option (Int × Bool) := Fn impl_NearFit.E impl_NearFit.T impl_NearFit.C impl_NearFit.P impl_NearFit.R impl_NearFit.X (l, g, far)
theorem impl_NearFit.l7_eq (l : List ByteArray) (far : Int) (g : Int × Int × List (Int × ByteArray)) : impl_NearFit.l7 l far g =
  ((impl_Group_old.f g).bind fun y88 =>
  (impl_near.f l y88 g.1 far).bind fun y89 =>
  bif (decide (y89 < 0)) then (some (0, false)) else (some (y89, true))) :=
  (fixP_eq impl_NearFit.E impl_NearFit.T impl_NearFit.C impl_NearFit.K 7 impl_NearFit.D7 (l, far, g)).trans (by kernel_rfl)
theorem impl_NearFit.f_eq (l : List ByteArray) (g : Int × Int × List (Int × ByteArray)) (far : Int) : impl_NearFit.f l g far =
  ((impl_goodLines.f l).bind fun y88 =>
  bif (!y88) then (some (0, false)) else
  ((impl_goodGroup.f g).bind fun y89 =>
   bif (!y89) then (some (0, false)) else
   ((impl_isFar.f far).bind fun y90 =>
    bif (!y90) then (some (0, false)) else
    (impl_NearFit.l7 l far g)))) := by kernel_rfl
noncomputable def impl_NearFit.S : Abs.Sum := ⟨impl_NearFit.P, impl_NearFit.R, fun _ => Fn impl_NearFit.E impl_NearFit.T impl_NearFit.C impl_NearFit.P impl_NearFit.R impl_NearFit.X⟩
theorem impl_NearFit.meets : Meets Tryz.prog 12 impl_NearFit.S := meets_tab (S := impl_NearFit.U) tabOk_all (AllMeets.cons impl_goodLines.meets (AllMeets.cons impl_goodGroup.meets (AllMeets.cons impl_isFar.meets (AllMeets.cons impl_Group_old.meets (AllMeets.cons impl_near.meets AllMeets.nil))))) (AllStill.cons (fun _ _ _ => rfl) (AllStill.cons (fun _ _ _ => rfl) (AllStill.cons (fun _ _ _ => rfl) (AllStill.cons (fun _ _ _ => rfl) (AllStill.cons (fun _ _ _ => rfl) AllStill.nil))))) follows (by kernel_rfl : Tryz.prog.funcs[12]? = some Tryz.f12) (by kernel_rfl) (by kernel_rfl) (by kernel_rfl)
noncomputable def spec_NearFit.C : Code := Tryz.f13.body.getD .skip
def spec_NearFit.P : Par := (.cons (.val (.list .str)) (.cons (.val (.pair (.int .i64) (.pair (.int .i64) (.one (.list (.pair (.int .i64) (.one .str))))))) (.cons (.val (.int .i64)) .nil)))
noncomputable def spec_NearFit.U : SumTab := [(24, [], spec_l1Good.S), (43, [], spec_l6Group.S), (35, [], spec_l1In.S), (37, [], spec_l6Old.S), (38, [], spec_l16Near.S)]
noncomputable def spec_NearFit.E : Env := mkEnv TY AR spec_NearFit.U
def spec_NearFit.D7 : CutD := ⟨[0, 2, 4], (.cons (.val (.list .str)) (.cons (.val (.int .i64)) (.cons (.box 0 (.pair (.int .i64) (.pair (.int .i64) (.one (.list (.pair (.int .i64) (.one .str))))))) .nil)))⟩
noncomputable def spec_NearFit.T : Tab := fun k => look k [(7, spec_NearFit.D7)]
def spec_NearFit.R : List (Nat × Ty) := [(0, .int .i64), (0, .bool)]
def spec_NearFit.X : List ResultVar := [.tmp 6, .tmp 7]
noncomputable def spec_NearFit.K := fin spec_NearFit.E ⟨spec_NearFit.P, spec_NearFit.R, fun _ _ => none⟩ spec_NearFit.X spec_NearFit.P.len 0
noncomputable def spec_NearFit.l7 (l : List ByteArray) (far : Int) (g : Int × Int × List (Int × ByteArray)) : Option (Int × Bool) := fixP spec_NearFit.E spec_NearFit.T spec_NearFit.C spec_NearFit.K 7 spec_NearFit.D7 (l, far, g)
noncomputable def spec_NearFit.f (l : List ByteArray) (g : Int × Int × List (Int × ByteArray)) (far : Int) : Option (Int × Bool) := Fn spec_NearFit.E spec_NearFit.T spec_NearFit.C spec_NearFit.P spec_NearFit.R spec_NearFit.X (l, g, far)
theorem spec_NearFit.l7_eq (l : List ByteArray) (far : Int) (g : Int × Int × List (Int × ByteArray)) : spec_NearFit.l7 l far g =
  ((spec_l6Old.f g).bind fun y88 =>
  (spec_l16Near.f l y88 g.1 far).bind fun y89 =>
  bif (decide (y89 < 0)) then (some (0, false)) else (some (y89, true))) :=
  (fixP_eq spec_NearFit.E spec_NearFit.T spec_NearFit.C spec_NearFit.K 7 spec_NearFit.D7 (l, far, g)).trans (by kernel_rfl)
theorem spec_NearFit.f_eq (l : List ByteArray) (g : Int × Int × List (Int × ByteArray)) (far : Int) : spec_NearFit.f l g far =
  ((spec_l1Good.f l).bind fun y88 =>
  bif (!y88) then (some (0, false)) else
  ((spec_l6Group.f g).bind fun y89 =>
   bif (!y89) then (some (0, false)) else
   ((spec_l1In.f far 0 40).bind fun y90 =>
    bif (!y90) then (some (0, false)) else
    (spec_NearFit.l7 l far g)))) := by kernel_rfl
noncomputable def spec_NearFit.S : Abs.Sum := ⟨spec_NearFit.P, spec_NearFit.R, fun _ => Fn spec_NearFit.E spec_NearFit.T spec_NearFit.C spec_NearFit.P spec_NearFit.R spec_NearFit.X⟩
theorem spec_NearFit.meets : Meets Tryz.prog 13 spec_NearFit.S := meets_tab (S := spec_NearFit.U) tabOk_all (AllMeets.cons spec_l1Good.meets (AllMeets.cons spec_l6Group.meets (AllMeets.cons spec_l1In.meets (AllMeets.cons spec_l6Old.meets (AllMeets.cons spec_l16Near.meets AllMeets.nil))))) (AllStill.cons (fun _ _ _ => rfl) (AllStill.cons (fun _ _ _ => rfl) (AllStill.cons (fun _ _ _ => rfl) (AllStill.cons (fun _ _ _ => rfl) (AllStill.cons (fun _ _ _ => rfl) AllStill.nil))))) follows (by kernel_rfl : Tryz.prog.funcs[13]? = some Tryz.f13) (by kernel_rfl) (by kernel_rfl) (by kernel_rfl)
noncomputable def impl_FitsAt.C : Code := Tryz.f14.body.getD .skip
def impl_FitsAt.P : Par := (.cons (.val (.list .str)) (.cons (.val (.pair (.int .i64) (.pair (.int .i64) (.one (.list (.pair (.int .i64) (.one .str))))))) (.cons (.val (.int .i64)) .nil)))
noncomputable def impl_FitsAt.U : SumTab := [(26, [], impl_goodLines.S), (42, [], impl_goodGroup.S), (30, [], impl_Group_old.S), (44, [], impl_stands.S)]
noncomputable def impl_FitsAt.E : Env := mkEnv TY AR impl_FitsAt.U
def impl_FitsAt.D7 : CutD := ⟨[0, 2, 4], (.cons (.val (.list .str)) (.cons (.val (.int .i64)) (.cons (.box 0 (.pair (.int .i64) (.pair (.int .i64) (.one (.list (.pair (.int .i64) (.one .str))))))) .nil)))⟩
noncomputable def impl_FitsAt.T : Tab := fun k => look k [(7, impl_FitsAt.D7)]
def impl_FitsAt.R : List (Nat × Ty) := [(0, .bool), (0, .bool)]
def impl_FitsAt.X : List ResultVar := [.tmp 6, .tmp 7]
noncomputable def impl_FitsAt.K := fin impl_FitsAt.E ⟨impl_FitsAt.P, impl_FitsAt.R, fun _ _ => none⟩ impl_FitsAt.X impl_FitsAt.P.len 0
noncomputable def impl_FitsAt.l7 (l : List ByteArray) (t2 : Int) (g : Int × Int × List (Int × ByteArray)) : Option (Bool × Bool) := fixP impl_FitsAt.E impl_FitsAt.T impl_FitsAt.C impl_FitsAt.K 7 impl_FitsAt.D7 (l, t2, g)
noncomputable def impl_FitsAt.f (l : List ByteArray) (g : Int × Int × List (Int × ByteArray)) (t2 : Int) : Option (Bool × Bool) := Fn impl_FitsAt.E impl_FitsAt.T impl_FitsAt.C impl_FitsAt.P impl_FitsAt.R impl_FitsAt.X (l, g, t2)
theorem impl_FitsAt.l7_eq (l : List ByteArray) (t2 : Int) (g : Int × Int × List (Int × ByteArray)) : impl_FitsAt.l7 l t2 g =
  ((impl_Group_old.f g).bind fun y88 =>
  (impl_stands.f l y88 t2).bind fun y89 =>
  some (y89, true)) :=
  (fixP_eq impl_FitsAt.E impl_FitsAt.T impl_FitsAt.C impl_FitsAt.K 7 impl_FitsAt.D7 (l, t2, g)).trans (by kernel_rfl)
theorem impl_FitsAt.f_eq (l : List ByteArray) (g : Int × Int × List (Int × ByteArray)) (t2 : Int) : impl_FitsAt.f l g t2 =
  ((impl_goodLines.f l).bind fun y88 =>
  bif (!y88) then (some (false, false)) else
  ((impl_goodGroup.f g).bind fun y89 =>
   bif (!y89) then (some (false, false)) else
   (impl_FitsAt.l7 l t2 g))) := by kernel_rfl
noncomputable def impl_FitsAt.S : Abs.Sum := ⟨impl_FitsAt.P, impl_FitsAt.R, fun _ => Fn impl_FitsAt.E impl_FitsAt.T impl_FitsAt.C impl_FitsAt.P impl_FitsAt.R impl_FitsAt.X⟩
theorem impl_FitsAt.meets : Meets Tryz.prog 14 impl_FitsAt.S := meets_tab (S := impl_FitsAt.U) tabOk_all (AllMeets.cons impl_goodLines.meets (AllMeets.cons impl_goodGroup.meets (AllMeets.cons impl_Group_old.meets (AllMeets.cons impl_stands.meets AllMeets.nil)))) (AllStill.cons (fun _ _ _ => rfl) (AllStill.cons (fun _ _ _ => rfl) (AllStill.cons (fun _ _ _ => rfl) (AllStill.cons (fun _ _ _ => rfl) AllStill.nil)))) follows (by kernel_rfl : Tryz.prog.funcs[14]? = some Tryz.f14) (by kernel_rfl) (by kernel_rfl) (by kernel_rfl)
noncomputable def impl_OldOf.C : Code := Tryz.f15.body.getD .skip
def impl_OldOf.P : Par := (.cons (.val (.pair (.int .i64) (.pair (.int .i64) (.one (.list (.pair (.int .i64) (.one .str))))))) .nil)
noncomputable def impl_OldOf.U : SumTab := [(42, [], impl_goodGroup.S), (30, [], impl_Group_old.S)]
noncomputable def impl_OldOf.E : Env := mkEnv TY AR impl_OldOf.U
noncomputable def impl_OldOf.T : Tab := fun k => look k []
def impl_OldOf.R : List (Nat × Ty) := [(9, .list .str), (0, .bool)]
def impl_OldOf.X : List ResultVar := [.tmp 2, .tmp 3]
noncomputable def impl_OldOf.f (g : Int × Int × List (Int × ByteArray)) : Option ((List ByteArray) × Bool) := Fn impl_OldOf.E impl_OldOf.T impl_OldOf.C impl_OldOf.P impl_OldOf.R impl_OldOf.X g
theorem impl_OldOf.f_eq (g : Int × Int × List (Int × ByteArray)) : impl_OldOf.f g =
  ((impl_goodGroup.f g).bind fun y88 =>
  bif (!y88) then (some (([] : List ByteArray), false)) else
  ((impl_Group_old.f g).bind fun y89 =>
   some (y89, true))) := by kernel_rfl
noncomputable def impl_OldOf.S : Abs.Sum := ⟨impl_OldOf.P, impl_OldOf.R, fun _ => Fn impl_OldOf.E impl_OldOf.T impl_OldOf.C impl_OldOf.P impl_OldOf.R impl_OldOf.X⟩
theorem impl_OldOf.meets : Meets Tryz.prog 15 impl_OldOf.S := meets_tab (S := impl_OldOf.U) tabOk_all (AllMeets.cons impl_goodGroup.meets (AllMeets.cons impl_Group_old.meets AllMeets.nil)) (AllStill.cons (fun _ _ _ => rfl) (AllStill.cons (fun _ _ _ => rfl) AllStill.nil)) follows (by kernel_rfl : Tryz.prog.funcs[15]? = some Tryz.f15) (by kernel_rfl) (by kernel_rfl) (by kernel_rfl)
noncomputable def impl_PlacesOf.C : Code := Tryz.f16.body.getD .skip
def impl_PlacesOf.P : Par := (.cons (.val (.list .str)) (.cons (.val (.list .str)) .nil))
noncomputable def impl_PlacesOf.U : SumTab := [(26, [], impl_goodLines.S), (45, [], impl_areLines.S), (44, [], impl_stands.S)]
noncomputable def impl_PlacesOf.E : Env := mkEnv TY AR impl_PlacesOf.U
def impl_PlacesOf.D7 : CutD := ⟨[0, 1], (.cons (.val (.list .str)) (.cons (.val (.list .str)) .nil))⟩
def impl_PlacesOf.D10 : CutD := ⟨[0, 1, 6, 19, 20], (.cons (.val (.list .str)) (.cons (.val (.list .str)) (.cons (.own 9 (.int .i64)) (.cons (.val (.int .i64)) (.cons (.val (.int .i64)) .nil)))))⟩
noncomputable def impl_PlacesOf.T : Tab := fun k => look k [(7, impl_PlacesOf.D7), (10, impl_PlacesOf.D10)]
def impl_PlacesOf.R : List (Nat × Ty) := [(9, .list (.int .i64)), (0, .bool)]
def impl_PlacesOf.X : List ResultVar := [.tmp 4, .tmp 5]
noncomputable def impl_PlacesOf.K := fin impl_PlacesOf.E ⟨impl_PlacesOf.P, impl_PlacesOf.R, fun _ _ => none⟩ impl_PlacesOf.X impl_PlacesOf.P.len 0
noncomputable def impl_PlacesOf.l7 (l : List ByteArray) (part : List ByteArray) : Option ((List Int) × Bool) := fixP impl_PlacesOf.E impl_PlacesOf.T impl_PlacesOf.C impl_PlacesOf.K 7 impl_PlacesOf.D7 (l, part)
noncomputable def impl_PlacesOf.l10 (l : List ByteArray) (part : List ByteArray) (out : List Int) (t19 : Int) (t20 : Int) : Option ((List Int) × Bool) := fixP impl_PlacesOf.E impl_PlacesOf.T impl_PlacesOf.C impl_PlacesOf.K 10 impl_PlacesOf.D10 (l, part, out, t19, t20)
noncomputable def impl_PlacesOf.f (l : List ByteArray) (part : List ByteArray) : Option ((List Int) × Bool) := Fn impl_PlacesOf.E impl_PlacesOf.T impl_PlacesOf.C impl_PlacesOf.P impl_PlacesOf.R impl_PlacesOf.X (l, part)
theorem impl_PlacesOf.l7_eq (l : List ByteArray) (part : List ByteArray) : impl_PlacesOf.l7 l part =
  (impl_PlacesOf.l10 l part ([] : List Int) (w64 ((l.length : Int) + 1)) 0) :=
  (fixP_eq impl_PlacesOf.E impl_PlacesOf.T impl_PlacesOf.C impl_PlacesOf.K 7 impl_PlacesOf.D7 (l, part)).trans (by kernel_rfl)
theorem impl_PlacesOf.l10_eq (l : List ByteArray) (part : List ByteArray) (out : List Int) (t19 : Int) (t20 : Int) : impl_PlacesOf.l10 l part out t19 t20 =
  (bif (decide (t20 < t19)) then ((impl_stands.f l part t20).bind fun y88 =>
   bif y88 then (bif (decide ((out.length + [t20].length) ≤ room 8)) then (impl_PlacesOf.l10 l part (out ++ [t20]) t19 (w64 (t20 + 1))) else none) else
   (impl_PlacesOf.l10 l part out t19 (w64 (t20 + 1)))) else (some (out, true))) :=
  (fixP_eq impl_PlacesOf.E impl_PlacesOf.T impl_PlacesOf.C impl_PlacesOf.K 10 impl_PlacesOf.D10 (l, part, out, t19, t20)).trans (by kernel_rfl)
theorem impl_PlacesOf.f_eq (l : List ByteArray) (part : List ByteArray) : impl_PlacesOf.f l part =
  ((impl_goodLines.f l).bind fun y88 =>
  bif (!y88) then (some (([] : List Int), false)) else
  ((impl_areLines.f part).bind fun y89 =>
   bif (!y89) then (some (([] : List Int), false)) else
   (impl_PlacesOf.l7 l part))) := by kernel_rfl
noncomputable def impl_PlacesOf.S : Abs.Sum := ⟨impl_PlacesOf.P, impl_PlacesOf.R, fun _ => Fn impl_PlacesOf.E impl_PlacesOf.T impl_PlacesOf.C impl_PlacesOf.P impl_PlacesOf.R impl_PlacesOf.X⟩
theorem impl_PlacesOf.meets : Meets Tryz.prog 16 impl_PlacesOf.S := meets_tab (S := impl_PlacesOf.U) tabOk_all (AllMeets.cons impl_goodLines.meets (AllMeets.cons impl_areLines.meets (AllMeets.cons impl_stands.meets AllMeets.nil))) (AllStill.cons (fun _ _ _ => rfl) (AllStill.cons (fun _ _ _ => rfl) (AllStill.cons (fun _ _ _ => rfl) AllStill.nil))) follows (by kernel_rfl : Tryz.prog.funcs[16]? = some Tryz.f16) (by kernel_rfl) (by kernel_rfl) (by kernel_rfl)
noncomputable def laws_has.C : Code := Tryz.f17.body.getD .skip
def laws_has.P : Par := (.cons (.val (.list (.int .i64))) (.cons (.val (.int .i64)) .nil))
noncomputable def laws_has.U : SumTab := []
noncomputable def laws_has.E : Env := mkEnv TY AR laws_has.U
def laws_has.D4 : CutD := ⟨[1, 7, 8, 9], (.cons (.val (.int .i64)) (.cons (.val (.list (.int .i64))) (.cons (.val (.int .i64)) (.cons (.val (.int .i64)) .nil))))⟩
noncomputable def laws_has.T : Tab := fun k => look k [(4, laws_has.D4)]
def laws_has.R : List (Nat × Ty) := [(0, .bool)]
def laws_has.X : List ResultVar := [.tmp 4]
noncomputable def laws_has.K := fin laws_has.E ⟨laws_has.P, laws_has.R, fun _ _ => none⟩ laws_has.X laws_has.P.len 0
noncomputable def laws_has.l4 (n : Int) (t7 : List Int) (t8 : Int) (t9 : Int) : Option (Bool) := fixP laws_has.E laws_has.T laws_has.C laws_has.K 4 laws_has.D4 (n, t7, t8, t9)
noncomputable def laws_has.f (l : List Int) (n : Int) : Option (Bool) := Fn laws_has.E laws_has.T laws_has.C laws_has.P laws_has.R laws_has.X (l, n)
theorem laws_has.l4_eq (n : Int) (t7 : List Int) (t8 : Int) (t9 : Int) : laws_has.l4 n t7 t8 t9 =
  (bif (decide (t9 < t8)) then (bif ((decide (0 ≤ t9)) && (decide (t9 < (t7.length : Int)))) then (bif (decide ((t7.getD (t9).toNat 0) = n)) then (some true) else
    (laws_has.l4 n t7 t8 (w64 (t9 + 1)))) else none) else (some false)) :=
  (fixP_eq laws_has.E laws_has.T laws_has.C laws_has.K 4 laws_has.D4 (n, t7, t8, t9)).trans (by kernel_rfl)
theorem laws_has.f_eq (l : List Int) (n : Int) : laws_has.f l n =
  (laws_has.l4 n l (l.length : Int) 0) := by kernel_rfl
noncomputable def laws_has.S : Abs.Sum := ⟨laws_has.P, laws_has.R, fun _ => Fn laws_has.E laws_has.T laws_has.C laws_has.P laws_has.R laws_has.X⟩
theorem laws_has.meets : Meets Tryz.prog 17 laws_has.S := meets_tab (S := laws_has.U) tabOk_all AllMeets.nil AllStill.nil follows (by kernel_rfl : Tryz.prog.funcs[17]? = some Tryz.f17) (by kernel_rfl) (by kernel_rfl) (by kernel_rfl)
noncomputable def spec_FitsAt.C : Code := Tryz.f19.body.getD .skip
def spec_FitsAt.P : Par := (.cons (.val (.list .str)) (.cons (.val (.pair (.int .i64) (.pair (.int .i64) (.one (.list (.pair (.int .i64) (.one .str))))))) (.cons (.val (.int .i64)) .nil)))
noncomputable def spec_FitsAt.U : SumTab := [(24, [], spec_l1Good.S), (43, [], spec_l6Group.S), (37, [], spec_l6Old.S), (48, [], spec_l16Fits.S)]
noncomputable def spec_FitsAt.E : Env := mkEnv TY AR spec_FitsAt.U
def spec_FitsAt.D7 : CutD := ⟨[0, 2, 4], (.cons (.val (.list .str)) (.cons (.val (.int .i64)) (.cons (.box 0 (.pair (.int .i64) (.pair (.int .i64) (.one (.list (.pair (.int .i64) (.one .str))))))) .nil)))⟩
noncomputable def spec_FitsAt.T : Tab := fun k => look k [(7, spec_FitsAt.D7)]
def spec_FitsAt.R : List (Nat × Ty) := [(0, .bool), (0, .bool)]
def spec_FitsAt.X : List ResultVar := [.tmp 6, .tmp 7]
noncomputable def spec_FitsAt.K := fin spec_FitsAt.E ⟨spec_FitsAt.P, spec_FitsAt.R, fun _ _ => none⟩ spec_FitsAt.X spec_FitsAt.P.len 0
noncomputable def spec_FitsAt.l7 (l : List ByteArray) (t2 : Int) (g : Int × Int × List (Int × ByteArray)) : Option (Bool × Bool) := fixP spec_FitsAt.E spec_FitsAt.T spec_FitsAt.C spec_FitsAt.K 7 spec_FitsAt.D7 (l, t2, g)
noncomputable def spec_FitsAt.f (l : List ByteArray) (g : Int × Int × List (Int × ByteArray)) (t2 : Int) : Option (Bool × Bool) := Fn spec_FitsAt.E spec_FitsAt.T spec_FitsAt.C spec_FitsAt.P spec_FitsAt.R spec_FitsAt.X (l, g, t2)
theorem spec_FitsAt.l7_eq (l : List ByteArray) (t2 : Int) (g : Int × Int × List (Int × ByteArray)) : spec_FitsAt.l7 l t2 g =
  ((spec_l6Old.f g).bind fun y88 =>
  (spec_l16Fits.f l y88 t2).bind fun y89 =>
  some (y89, true)) :=
  (fixP_eq spec_FitsAt.E spec_FitsAt.T spec_FitsAt.C spec_FitsAt.K 7 spec_FitsAt.D7 (l, t2, g)).trans (by kernel_rfl)
theorem spec_FitsAt.f_eq (l : List ByteArray) (g : Int × Int × List (Int × ByteArray)) (t2 : Int) : spec_FitsAt.f l g t2 =
  ((spec_l1Good.f l).bind fun y88 =>
  bif (!y88) then (some (false, false)) else
  ((spec_l6Group.f g).bind fun y89 =>
   bif (!y89) then (some (false, false)) else
   (spec_FitsAt.l7 l t2 g))) := by kernel_rfl
noncomputable def spec_FitsAt.S : Abs.Sum := ⟨spec_FitsAt.P, spec_FitsAt.R, fun _ => Fn spec_FitsAt.E spec_FitsAt.T spec_FitsAt.C spec_FitsAt.P spec_FitsAt.R spec_FitsAt.X⟩
theorem spec_FitsAt.meets : Meets Tryz.prog 19 spec_FitsAt.S := meets_tab (S := spec_FitsAt.U) tabOk_all (AllMeets.cons spec_l1Good.meets (AllMeets.cons spec_l6Group.meets (AllMeets.cons spec_l6Old.meets (AllMeets.cons spec_l16Fits.meets AllMeets.nil)))) (AllStill.cons (fun _ _ _ => rfl) (AllStill.cons (fun _ _ _ => rfl) (AllStill.cons (fun _ _ _ => rfl) (AllStill.cons (fun _ _ _ => rfl) AllStill.nil)))) follows (by kernel_rfl : Tryz.prog.funcs[19]? = some Tryz.f19) (by kernel_rfl) (by kernel_rfl) (by kernel_rfl)
noncomputable def spec_l1Cur_anyText.C : Code := Tryz.f49.body.getD .skip
def spec_l1Cur_anyText.P : Par := (.cons (.box 0 (.pair (.list (.int .u8)) (.pair (.int .i64) (.one (.int .u64))))) .nil)
noncomputable def spec_l1Cur_anyText.U : SumTab := [(52, [], spec_l1Cur_text.S), (47, [], spec_l1Cur_pick.S)]
noncomputable def spec_l1Cur_anyText.E : Env := mkEnv TY AR spec_l1Cur_anyText.U
noncomputable def spec_l1Cur_anyText.T : Tab := fun k => look k []
def spec_l1Cur_anyText.R : List (Nat × Ty) := [(9, .list .str)]
def spec_l1Cur_anyText.X : List ResultVar := [.tmp 2]
noncomputable def spec_l1Cur_anyText.f (c : (List Int) × Int × Int) : Option ((List ByteArray) × ((List Int) × Int × Int)) := Fn spec_l1Cur_anyText.E spec_l1Cur_anyText.T spec_l1Cur_anyText.C spec_l1Cur_anyText.P spec_l1Cur_anyText.R spec_l1Cur_anyText.X c
theorem spec_l1Cur_anyText.f_eq (c : (List Int) × Int × Int) : spec_l1Cur_anyText.f c =
  ((spec_l1Cur_text.f c).bind fun y88 =>
  bif (decide ((y88.1.length : Int) > 1)) then ((spec_l1Cur_pick.f y88.2 25).bind fun y89 =>
   bif (decide (y89.1 = 0)) then (bif (decide (0 < (y88.1.length : Int))) then (some ((y88.1.set 0 (⟨#[120]⟩ : ByteArray)), y89.2)) else none) else
   (bif (decide (y89.1 = 1)) then (bif (decide (0 < (y88.1.length : Int))) then (some ((y88.1.set 0 em), y89.2)) else none) else
    (bif (decide (y89.1 = 2)) then (bif (decide (0 < (y88.1.length : Int))) then (some ((y88.1.set 0 (⟨#[97, 10, 98, 10]⟩ : ByteArray)), y89.2)) else none) else (some (y88.1, y89.2))))) else (some (y88.1, y88.2))) := by kernel_rfl
noncomputable def spec_l1Cur_anyText.S : Abs.Sum := ⟨spec_l1Cur_anyText.P, spec_l1Cur_anyText.R, fun _ => Fn spec_l1Cur_anyText.E spec_l1Cur_anyText.T spec_l1Cur_anyText.C spec_l1Cur_anyText.P spec_l1Cur_anyText.R spec_l1Cur_anyText.X⟩
theorem spec_l1Cur_anyText.meets : Meets Tryz.prog 49 spec_l1Cur_anyText.S := meets_tab (S := spec_l1Cur_anyText.U) tabOk_all (AllMeets.cons spec_l1Cur_text.meets (AllMeets.cons spec_l1Cur_pick.meets AllMeets.nil)) (AllStill.cons (fun _ _ _ => rfl) (AllStill.cons (fun _ _ _ => rfl) AllStill.nil)) follows (by kernel_rfl : Tryz.prog.funcs[49]? = some Tryz.f49) (by kernel_rfl) (by kernel_rfl) (by kernel_rfl)
noncomputable def spec_DrawPlacesOf.C : Code := Tryz.f20.body.getD .skip
def spec_DrawPlacesOf.P : Par := (.cons (.val (.list (.int .u8))) .nil)
noncomputable def spec_DrawPlacesOf.U : SumTab := [(49, [], spec_l1Cur_anyText.S), (47, [], spec_l1Cur_pick.S), (50, [], spec_l1Least.S), (36, [], spec_l1OwnT.S), (23, [], spec_l1Cur_one.S)]
noncomputable def spec_DrawPlacesOf.E : Env := mkEnv TY AR spec_DrawPlacesOf.U
noncomputable def spec_DrawPlacesOf.T : Tab := fun k => look k []
def spec_DrawPlacesOf.R : List (Nat × Ty) := [(0, .list .str), (9, .list .str)]
def spec_DrawPlacesOf.X : List ResultVar := [.tmp 2, .tmp 3]
noncomputable def spec_DrawPlacesOf.f (code : List Int) : Option ((List ByteArray) × (List ByteArray)) := Fn spec_DrawPlacesOf.E spec_DrawPlacesOf.T spec_DrawPlacesOf.C spec_DrawPlacesOf.P spec_DrawPlacesOf.R spec_DrawPlacesOf.X code
theorem spec_DrawPlacesOf.f_eq (code : List Int) : spec_DrawPlacesOf.f code =
  ((spec_l1Cur_anyText.f (code, 0, 0)).bind fun y160 =>
  (spec_l1Cur_pick.f y160.2 (w64 ((y160.1.length : Int) + 1))).bind fun y161 =>
  (spec_l1Cur_pick.f y161.2 3).bind fun y162 =>
  (spec_l1Least.f (y160.1.length : Int) (w64 (y161.1 + y162.1))).bind fun y163 =>
  bif ((decide (0 ≤ y161.1)) && ((decide (y161.1 ≤ y163)) && (decide (y163 ≤ (y160.1.length : Int))))) then ((spec_l1OwnT.f ((y160.1.take (y163).toNat).drop (y161.1).toNat)).bind fun y164 =>
   (spec_l1Cur_one.f y162.2 20).bind fun y165 =>
   bif y165.1 then (bif (decide ((y164.length + [em].length) ≤ room 16)) then (some (y160.1, (y164 ++ [em]))) else none) else (some (y160.1, y164))) else none) := by kernel_rfl
noncomputable def spec_DrawPlacesOf.S : Abs.Sum := ⟨spec_DrawPlacesOf.P, spec_DrawPlacesOf.R, fun _ => Fn spec_DrawPlacesOf.E spec_DrawPlacesOf.T spec_DrawPlacesOf.C spec_DrawPlacesOf.P spec_DrawPlacesOf.R spec_DrawPlacesOf.X⟩
theorem spec_DrawPlacesOf.meets : Meets Tryz.prog 20 spec_DrawPlacesOf.S := meets_tab (S := spec_DrawPlacesOf.U) tabOk_all (AllMeets.cons spec_l1Cur_anyText.meets (AllMeets.cons spec_l1Cur_pick.meets (AllMeets.cons spec_l1Least.meets (AllMeets.cons spec_l1OwnT.meets (AllMeets.cons spec_l1Cur_one.meets AllMeets.nil))))) (AllStill.cons (fun _ _ _ => rfl) (AllStill.cons (fun _ _ _ => rfl) (AllStill.cons (fun _ _ _ => rfl) (AllStill.cons (fun _ _ _ => rfl) (AllStill.cons (fun _ _ _ => rfl) AllStill.nil))))) follows (by kernel_rfl : Tryz.prog.funcs[20]? = some Tryz.f20) (by kernel_rfl) (by kernel_rfl) (by kernel_rfl)
noncomputable def spec_PlacesOf.C : Code := Tryz.f21.body.getD .skip
def spec_PlacesOf.P : Par := (.cons (.val (.list .str)) (.cons (.val (.list .str)) .nil))
noncomputable def spec_PlacesOf.U : SumTab := [(24, [], spec_l1Good.S), (51, [], spec_l1Line.S), (48, [], spec_l16Fits.S)]
noncomputable def spec_PlacesOf.E : Env := mkEnv TY AR spec_PlacesOf.U
def spec_PlacesOf.D7 : CutD := ⟨[0, 1], (.cons (.val (.list .str)) (.cons (.val (.list .str)) .nil))⟩
def spec_PlacesOf.D8 : CutD := ⟨[0, 1, 18, 19, 20], (.cons (.val (.list .str)) (.cons (.val (.list .str)) (.cons (.val (.list .str)) (.cons (.val (.int .i64)) (.cons (.val (.int .i64)) .nil)))))⟩
def spec_PlacesOf.D22 : CutD := ⟨[0, 1, 8, 9], (.cons (.val (.list .str)) (.cons (.val (.list .str)) (.cons (.own 9 (.int .i64)) (.cons (.val (.int .i64)) .nil))))⟩
noncomputable def spec_PlacesOf.T : Tab := fun k => look k [(7, spec_PlacesOf.D7), (8, spec_PlacesOf.D8), (22, spec_PlacesOf.D22)]
def spec_PlacesOf.R : List (Nat × Ty) := [(9, .list (.int .i64)), (0, .bool)]
def spec_PlacesOf.X : List ResultVar := [.tmp 4, .tmp 5]
noncomputable def spec_PlacesOf.K := fin spec_PlacesOf.E ⟨spec_PlacesOf.P, spec_PlacesOf.R, fun _ _ => none⟩ spec_PlacesOf.X spec_PlacesOf.P.len 0
noncomputable def spec_PlacesOf.l7 (l : List ByteArray) (part : List ByteArray) : Option ((List Int) × Bool) := fixP spec_PlacesOf.E spec_PlacesOf.T spec_PlacesOf.C spec_PlacesOf.K 7 spec_PlacesOf.D7 (l, part)
noncomputable def spec_PlacesOf.l8 (l : List ByteArray) (part : List ByteArray) (t18 : List ByteArray) (t19 : Int) (t20 : Int) : Option ((List Int) × Bool) := fixP spec_PlacesOf.E spec_PlacesOf.T spec_PlacesOf.C spec_PlacesOf.K 8 spec_PlacesOf.D8 (l, part, t18, t19, t20)
noncomputable def spec_PlacesOf.l22 (l : List ByteArray) (part : List ByteArray) (out : List Int) (t9 : Int) : Option ((List Int) × Bool) := fixP spec_PlacesOf.E spec_PlacesOf.T spec_PlacesOf.C spec_PlacesOf.K 22 spec_PlacesOf.D22 (l, part, out, t9)
noncomputable def spec_PlacesOf.f (l : List ByteArray) (part : List ByteArray) : Option ((List Int) × Bool) := Fn spec_PlacesOf.E spec_PlacesOf.T spec_PlacesOf.C spec_PlacesOf.P spec_PlacesOf.R spec_PlacesOf.X (l, part)
theorem spec_PlacesOf.l7_eq (l : List ByteArray) (part : List ByteArray) : spec_PlacesOf.l7 l part =
  (spec_PlacesOf.l8 l part part (part.length : Int) 0) :=
  (fixP_eq spec_PlacesOf.E spec_PlacesOf.T spec_PlacesOf.C spec_PlacesOf.K 7 spec_PlacesOf.D7 (l, part)).trans (by kernel_rfl)
theorem spec_PlacesOf.l8_eq (l : List ByteArray) (part : List ByteArray) (t18 : List ByteArray) (t19 : Int) (t20 : Int) : spec_PlacesOf.l8 l part t18 t19 t20 =
  (bif (decide (t20 < t19)) then (bif ((decide (0 ≤ t20)) && (decide (t20 < (t18.length : Int)))) then ((spec_l1Line.f (t18.getD (t20).toNat em)).bind fun y160 =>
    bif (!y160) then (some (([] : List Int), false)) else
    (spec_PlacesOf.l8 l part t18 t19 (w64 (t20 + 1)))) else none) else
  (spec_PlacesOf.l22 l part ([] : List Int) 0)) :=
  (fixP_eq spec_PlacesOf.E spec_PlacesOf.T spec_PlacesOf.C spec_PlacesOf.K 8 spec_PlacesOf.D8 (l, part, t18, t19, t20)).trans (by kernel_rfl)
theorem spec_PlacesOf.l22_eq (l : List ByteArray) (part : List ByteArray) (out : List Int) (t9 : Int) : spec_PlacesOf.l22 l part out t9 =
  (bif (decide (t9 ≤ (l.length : Int))) then ((spec_l16Fits.f l part t9).bind fun y160 =>
   bif y160 then (bif (decide ((out.length + [t9].length) ≤ room 8)) then (spec_PlacesOf.l22 l part (out ++ [t9]) (w64 (t9 + 1))) else none) else
   (spec_PlacesOf.l22 l part out (w64 (t9 + 1)))) else (some (out, true))) :=
  (fixP_eq spec_PlacesOf.E spec_PlacesOf.T spec_PlacesOf.C spec_PlacesOf.K 22 spec_PlacesOf.D22 (l, part, out, t9)).trans (by kernel_rfl)
theorem spec_PlacesOf.f_eq (l : List ByteArray) (part : List ByteArray) : spec_PlacesOf.f l part =
  ((spec_l1Good.f l).bind fun y160 =>
  bif (!y160) then (some (([] : List Int), false)) else
  (bif (decide ((part.length : Int) > 40)) then (some (([] : List Int), false)) else
   (spec_PlacesOf.l7 l part))) := by kernel_rfl
noncomputable def spec_PlacesOf.S : Abs.Sum := ⟨spec_PlacesOf.P, spec_PlacesOf.R, fun _ => Fn spec_PlacesOf.E spec_PlacesOf.T spec_PlacesOf.C spec_PlacesOf.P spec_PlacesOf.R spec_PlacesOf.X⟩
theorem spec_PlacesOf.meets : Meets Tryz.prog 21 spec_PlacesOf.S := meets_tab (S := spec_PlacesOf.U) tabOk_all (AllMeets.cons spec_l1Good.meets (AllMeets.cons spec_l1Line.meets (AllMeets.cons spec_l16Fits.meets AllMeets.nil))) (AllStill.cons (fun _ _ _ => rfl) (AllStill.cons (fun _ _ _ => rfl) (AllStill.cons (fun _ _ _ => rfl) AllStill.nil))) follows (by kernel_rfl : Tryz.prog.funcs[21]? = some Tryz.f21) (by kernel_rfl) (by kernel_rfl) (by kernel_rfl)
noncomputable def laws_FnNear.C : Code := Tryz.f3.body.getD .skip
def laws_FnNear.P : Par := (.cons (.val (.list (.int .u8))) (.cons (.val (.list (.int .u8))) .nil))
noncomputable def laws_FnNear.U : SumTab := [(4, [], laws_big.S), (5, [], spec_DrawApplyNear.S), (6, [], impl_ApplyNear.S), (7, [], spec_ApplyNear.S), (8, [], laws_sameTexts.S), (9, [], laws_sameInts.S), (10, [], impl_ApplyGroups.S), (11, [], spec_DrawNearFit.S), (12, [], impl_NearFit.S), (13, [], spec_NearFit.S), (14, [], impl_FitsAt.S), (15, [], impl_OldOf.S), (16, [], impl_PlacesOf.S), (17, [], laws_has.S), (18, [], spec_DrawFitsAt.S), (19, [], spec_FitsAt.S), (20, [], spec_DrawPlacesOf.S), (21, [], spec_PlacesOf.S)]
noncomputable def laws_FnNear.E : Env := mkEnv TY AR laws_FnNear.U
def laws_FnNear.D17 : CutD := ⟨[1, 5, 6, 8, 9, 10, 11], (.cons (.val (.list (.int .u8))) (.cons (.val (.list .str)) (.cons (.own 8 (.pair (.int .i64) (.pair (.int .i64) (.one (.list (.pair (.int .i64) (.one .str))))))) (.cons (.own 8 .str) (.cons (.own 8 (.int .i64)) (.cons (.val (.int .i64)) (.cons (.val .bool) .nil)))))))⟩
def laws_FnNear.D25 : CutD := ⟨[1], (.cons (.val (.list (.int .u8))) .nil)⟩
def laws_FnNear.D35 : CutD := ⟨[1, 19, 20, 21, 22, 23], (.cons (.val (.list (.int .u8))) (.cons (.val (.list .str)) (.cons (.box 0 (.pair (.int .i64) (.pair (.int .i64) (.one (.list (.pair (.int .i64) (.one .str))))))) (.cons (.val (.int .i64)) (.cons (.val (.int .i64)) (.cons (.val .bool) .nil))))))⟩
def laws_FnNear.D47 : CutD := ⟨[1, 20, 22, 30], (.cons (.val (.list (.int .u8))) (.cons (.box 0 (.pair (.int .i64) (.pair (.int .i64) (.one (.list (.pair (.int .i64) (.one .str))))))) (.cons (.val (.int .i64)) (.cons (.own 8 (.int .i64)) .nil))))⟩
def laws_FnNear.D48 : CutD := ⟨[1, 20, 22, 214, 215, 216], (.cons (.val (.list (.int .u8))) (.cons (.box 0 (.pair (.int .i64) (.pair (.int .i64) (.one (.list (.pair (.int .i64) (.one .str))))))) (.cons (.val (.int .i64)) (.cons (.own 8 (.int .i64)) (.cons (.val (.int .i64)) (.cons (.val (.int .i64)) .nil))))))⟩
def laws_FnNear.D59 : CutD := ⟨[1, 20, 22, 34, 35, 214, 215, 216], (.cons (.val (.list (.int .u8))) (.cons (.box 0 (.pair (.int .i64) (.pair (.int .i64) (.one (.list (.pair (.int .i64) (.one .str))))))) (.cons (.val (.int .i64)) (.cons (.val (.int .i64)) (.cons (.val (.int .i64)) (.cons (.own 8 (.int .i64)) (.cons (.val (.int .i64)) (.cons (.val (.int .i64)) .nil))))))))⟩
def laws_FnNear.D69 : CutD := ⟨[1], (.cons (.val (.list (.int .u8))) .nil)⟩
noncomputable def laws_FnNear.T : Tab := fun k => look k [(17, laws_FnNear.D17), (25, laws_FnNear.D25), (35, laws_FnNear.D35), (47, laws_FnNear.D47), (48, laws_FnNear.D48), (59, laws_FnNear.D59), (69, laws_FnNear.D69)]
def laws_FnNear.R : List (Nat × Ty) := [(0, .bool)]
def laws_FnNear.X : List ResultVar := [.tmp 4]
noncomputable def laws_FnNear.K := fin laws_FnNear.E ⟨laws_FnNear.P, laws_FnNear.R, fun _ _ => none⟩ laws_FnNear.X laws_FnNear.P.len 0
noncomputable def laws_FnNear.l17 (more : List Int) (l : List ByteArray) (g : List (Int × Int × List (Int × ByteArray))) (x : List ByteArray) (places : List Int) (why : Int) (ok : Bool) : Option (Bool) := fixP laws_FnNear.E laws_FnNear.T laws_FnNear.C laws_FnNear.K 17 laws_FnNear.D17 (more, l, g, x, places, why, ok)
noncomputable def laws_FnNear.l25 (more : List Int) : Option (Bool) := fixP laws_FnNear.E laws_FnNear.T laws_FnNear.C laws_FnNear.K 25 laws_FnNear.D25 more
noncomputable def laws_FnNear.l35 (more : List Int) (c : List ByteArray) (d : Int × Int × List (Int × ByteArray)) (many : Int) (n : Int) (one : Bool) : Option (Bool) := fixP laws_FnNear.E laws_FnNear.T laws_FnNear.C laws_FnNear.K 35 laws_FnNear.D35 (more, c, d, many, n, one)
noncomputable def laws_FnNear.l47 (more : List Int) (d : Int × Int × List (Int × ByteArray)) (n : Int) (p : List Int) : Option (Bool) := fixP laws_FnNear.E laws_FnNear.T laws_FnNear.C laws_FnNear.K 47 laws_FnNear.D47 (more, d, n, p)
noncomputable def laws_FnNear.l48 (more : List Int) (d : Int × Int × List (Int × ByteArray)) (n : Int) (t214 : List Int) (t215 : Int) (t216 : Int) : Option (Bool) := fixP laws_FnNear.E laws_FnNear.T laws_FnNear.C laws_FnNear.K 48 laws_FnNear.D48 (more, d, n, t214, t215, t216)
noncomputable def laws_FnNear.l59 (more : List Int) (d : Int × Int × List (Int × ByteArray)) (n : Int) (a : Int) (b : Int) (t214 : List Int) (t215 : Int) (t216 : Int) : Option (Bool) := fixP laws_FnNear.E laws_FnNear.T laws_FnNear.C laws_FnNear.K 59 laws_FnNear.D59 (more, d, n, a, b, t214, t215, t216)
noncomputable def laws_FnNear.l69 (more : List Int) : Option (Bool) := fixP laws_FnNear.E laws_FnNear.T laws_FnNear.C laws_FnNear.K 69 laws_FnNear.D69 more
noncomputable def laws_FnNear.f (code : List Int) (more : List Int) : Option (Bool) := Fn laws_FnNear.E laws_FnNear.T laws_FnNear.C laws_FnNear.P laws_FnNear.R laws_FnNear.X (code, more)
theorem laws_FnNear.l17_eq (more : List Int) (l : List ByteArray) (g : List (Int × Int × List (Int × ByteArray))) (x : List ByteArray) (places : List Int) (why : Int) (ok : Bool) : laws_FnNear.l17 more l g x places why ok =
  (bif ok then ((impl_ApplyGroups.f l g).bind fun y160 =>
   bif (!y160.2.2) then (some false) else
   (bif (decide (y160.2.1 = 0)) then (bif (!(decide (why = 0))) then (some false) else
     ((laws_sameTexts.f x y160.1).bind fun y161 =>
      bif (!y161) then (some false) else
      (bif (decide (why = 0)) then (bif (!(decide ((places.length : Int) = (g.length : Int)))) then (some false) else
        (laws_FnNear.l25 more)) else
       (laws_FnNear.l25 more)))) else
    (bif (decide (why = 0)) then (bif (!(decide ((places.length : Int) = (g.length : Int)))) then (some false) else
      (laws_FnNear.l25 more)) else
     (laws_FnNear.l25 more)))) else
  (laws_FnNear.l25 more)) :=
  (fixP_eq laws_FnNear.E laws_FnNear.T laws_FnNear.C laws_FnNear.K 17 laws_FnNear.D17 (more, l, g, x, places, why, ok)).trans (by kernel_rfl)
theorem laws_FnNear.l25_eq (more : List Int) : laws_FnNear.l25 more =
  ((spec_DrawNearFit.f more).bind fun y160 =>
  (impl_NearFit.f y160.1 y160.2.1 y160.2.2).bind fun y161 =>
  (spec_NearFit.f y160.1 y160.2.1 y160.2.2).bind fun y162 =>
  bif (!(y161.2 == y162.2)) then (some false) else
  (bif (!(decide (y161.1 = y162.1))) then (some false) else
   (laws_FnNear.l35 more y160.1 y160.2.1 y160.2.2 y161.1 y161.2))) :=
  (fixP_eq laws_FnNear.E laws_FnNear.T laws_FnNear.C laws_FnNear.K 25 laws_FnNear.D25 more).trans (by kernel_rfl)
theorem laws_FnNear.l35_eq (more : List Int) (c : List ByteArray) (d : Int × Int × List (Int × ByteArray)) (many : Int) (n : Int) (one : Bool) : laws_FnNear.l35 more c d many n one =
  (bif one then ((impl_FitsAt.f c d n).bind fun y160 =>
   (impl_OldOf.f d).bind fun y161 =>
   (impl_PlacesOf.f c y161.1).bind fun y162 =>
   bif (!y160.2) then (some false) else
   (bif (!y160.1) then (some false) else
    (bif (decide ((w64 (n - d.1)) > many)) then (some false) else
     (bif (decide ((w64 (d.1 - n)) > many)) then (some false) else
      (bif (!y161.2) then (some false) else
       (bif (!y162.2) then (some false) else
        ((laws_has.f y162.1 n).bind fun y163 =>
         bif (!y163) then (some false) else
         (laws_FnNear.l47 more d n y162.1)))))))) else
  (laws_FnNear.l69 more)) :=
  (fixP_eq laws_FnNear.E laws_FnNear.T laws_FnNear.C laws_FnNear.K 35 laws_FnNear.D35 (more, c, d, many, n, one)).trans (by kernel_rfl)
theorem laws_FnNear.l47_eq (more : List Int) (d : Int × Int × List (Int × ByteArray)) (n : Int) (p : List Int) : laws_FnNear.l47 more d n p =
  (laws_FnNear.l48 more d n p (p.length : Int) 0) :=
  (fixP_eq laws_FnNear.E laws_FnNear.T laws_FnNear.C laws_FnNear.K 47 laws_FnNear.D47 (more, d, n, p)).trans (by kernel_rfl)
theorem laws_FnNear.l48_eq (more : List Int) (d : Int × Int × List (Int × ByteArray)) (n : Int) (t214 : List Int) (t215 : Int) (t216 : Int) : laws_FnNear.l48 more d n t214 t215 t216 =
  (bif (decide (t216 < t215)) then (bif ((decide (0 ≤ t216)) && (decide (t216 < (t214.length : Int)))) then (bif (decide ((w64 ((t214.getD (t216).toNat 0) - d.1)) < 0)) then (laws_FnNear.l59 more d n (w64 (0 - (w64 ((t214.getD (t216).toNat 0) - d.1)))) (w64 (n - d.1)) t214 t215 t216) else
    (laws_FnNear.l59 more d n (w64 ((t214.getD (t216).toNat 0) - d.1)) (w64 (n - d.1)) t214 t215 t216)) else none) else
  (laws_FnNear.l69 more)) :=
  (fixP_eq laws_FnNear.E laws_FnNear.T laws_FnNear.C laws_FnNear.K 48 laws_FnNear.D48 (more, d, n, t214, t215, t216)).trans (by kernel_rfl)
theorem laws_FnNear.l59_eq (more : List Int) (d : Int × Int × List (Int × ByteArray)) (n : Int) (a : Int) (b : Int) (t214 : List Int) (t215 : Int) (t216 : Int) : laws_FnNear.l59 more d n a b t214 t215 t216 =
  (bif (decide (b < 0)) then (bif (decide (a < (w64 (0 - b)))) then (some false) else
   (laws_FnNear.l48 more d n t214 t215 (w64 (t216 + 1)))) else
  (bif (decide (a < b)) then (some false) else
   (laws_FnNear.l48 more d n t214 t215 (w64 (t216 + 1))))) :=
  (fixP_eq laws_FnNear.E laws_FnNear.T laws_FnNear.C laws_FnNear.K 59 laws_FnNear.D59 (more, d, n, a, b, t214, t215, t216)).trans (by kernel_rfl)
theorem laws_FnNear.l69_eq (more : List Int) : laws_FnNear.l69 more =
  ((spec_DrawFitsAt.f more).bind fun y160 =>
  (impl_FitsAt.f y160.1 y160.2.1 y160.2.2).bind fun y161 =>
  (spec_FitsAt.f y160.1 y160.2.1 y160.2.2).bind fun y162 =>
  (spec_DrawPlacesOf.f more).bind fun y163 =>
  (impl_PlacesOf.f y163.1 y163.2).bind fun y164 =>
  (spec_PlacesOf.f y163.1 y163.2).bind fun y165 =>
  bif (y161.2 == y162.2) then (bif (y161.1 == y162.1) then (bif (y164.2 == y165.2) then ((laws_sameInts.f y164.1 y165.1).bind fun y166 =>
     some y166) else (some false)) else (some false)) else (some false)) :=
  (fixP_eq laws_FnNear.E laws_FnNear.T laws_FnNear.C laws_FnNear.K 69 laws_FnNear.D69 more).trans (by kernel_rfl)
theorem laws_FnNear.f_eq (code : List Int) (more : List Int) : laws_FnNear.f code more =
  ((laws_big.f code more).bind fun y160 =>
  bif y160 then (some true) else
  ((spec_DrawApplyNear.f code).bind fun y161 =>
   (impl_ApplyNear.f y161.1 y161.2.1 y161.2.2).bind fun y162 =>
   (spec_ApplyNear.f y161.1 y161.2.1 y161.2.2).bind fun y163 =>
   bif (!(y162.2.2.2 == y163.2.2.2)) then (some false) else
   (bif (!(decide (y162.2.2.1 = y163.2.2.1))) then (some false) else
    ((laws_sameTexts.f y162.1 y163.1).bind fun y164 =>
     bif (!y164) then (some false) else
     ((laws_sameInts.f y162.2.1 y163.2.1).bind fun y165 =>
      bif (!y165) then (some false) else
      (laws_FnNear.l17 more y161.1 y161.2.1 y162.1 y162.2.1 y162.2.2.1 y162.2.2.2)))))) := by kernel_rfl
noncomputable def laws_FnNear.S : Abs.Sum := ⟨laws_FnNear.P, laws_FnNear.R, fun _ => Fn laws_FnNear.E laws_FnNear.T laws_FnNear.C laws_FnNear.P laws_FnNear.R laws_FnNear.X⟩
theorem laws_FnNear.meets : Meets Tryz.prog 3 laws_FnNear.S := meets_tab (S := laws_FnNear.U) tabOk_all (AllMeets.cons laws_big.meets (AllMeets.cons spec_DrawApplyNear.meets (AllMeets.cons impl_ApplyNear.meets (AllMeets.cons spec_ApplyNear.meets (AllMeets.cons laws_sameTexts.meets (AllMeets.cons laws_sameInts.meets (AllMeets.cons impl_ApplyGroups.meets (AllMeets.cons spec_DrawNearFit.meets (AllMeets.cons impl_NearFit.meets (AllMeets.cons spec_NearFit.meets (AllMeets.cons impl_FitsAt.meets (AllMeets.cons impl_OldOf.meets (AllMeets.cons impl_PlacesOf.meets (AllMeets.cons laws_has.meets (AllMeets.cons spec_DrawFitsAt.meets (AllMeets.cons spec_FitsAt.meets (AllMeets.cons spec_DrawPlacesOf.meets (AllMeets.cons spec_PlacesOf.meets AllMeets.nil)))))))))))))))))) (AllStill.cons (fun _ _ _ => rfl) (AllStill.cons (fun _ _ _ => rfl) (AllStill.cons (fun _ _ _ => rfl) (AllStill.cons (fun _ _ _ => rfl) (AllStill.cons (fun _ _ _ => rfl) (AllStill.cons (fun _ _ _ => rfl) (AllStill.cons (fun _ _ _ => rfl) (AllStill.cons (fun _ _ _ => rfl) (AllStill.cons (fun _ _ _ => rfl) (AllStill.cons (fun _ _ _ => rfl) (AllStill.cons (fun _ _ _ => rfl) (AllStill.cons (fun _ _ _ => rfl) (AllStill.cons (fun _ _ _ => rfl) (AllStill.cons (fun _ _ _ => rfl) (AllStill.cons (fun _ _ _ => rfl) (AllStill.cons (fun _ _ _ => rfl) (AllStill.cons (fun _ _ _ => rfl) (AllStill.cons (fun _ _ _ => rfl) AllStill.nil)))))))))))))))))) follows (by kernel_rfl : Tryz.prog.funcs[3]? = some Tryz.f3) (by kernel_rfl) (by kernel_rfl) (by kernel_rfl)
end Go.Abs.G
