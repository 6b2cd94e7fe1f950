import Derived.Test.YtkbhmdlljfknoaaDoorE1
import Derived.Test.YtkbhmdlljfknoaaDoorE2
import Derived.Test.YtkbhmdlljfknoaaDoorE3
import Derived.Test.YtkbhmdlljfknoaaDoorProg
import Derived.Test.YtkbhmdlljfknoaaDoorExt
set_option linter.unusedVariables false
set_option linter.unusedSimpArgs false
set_option linter.unusedSectionVars false
namespace Go.Abs.G
open Go Go.Abs Go.Proofs
def TY : TyTab := [(2, (.int .i64), 0),
 (3, (.int .i64), 0),
 (4, .bool, 0),
 (5, (.int .u8), 0),
 (6, (.int .u8), 0),
 (9, .str, 0),
 (10, .str, 0),
 (11, .str, 0),
 (12, (.int .u64), 0),
 (21, (.int .i32), 0),
 (22, (.list (.pair .str (.pair (.int .i64) (.one (.list (.pair (.int .i64) (.pair (.int .i64) (.one (.list (.pair (.int .i64) (.one .str))))))))))), 48),
 (25, (.list (.pair .str (.pair (.int .i64) (.one (.list (.pair (.int .i64) (.pair (.int .i64) (.one (.list (.pair (.int .i64) (.one .str))))))))))), 48),
 (35, (.list (.pair (.int .i64) (.pair (.int .i64) (.one (.list (.pair (.int .i64) (.one .str))))))), 40),
 (36, (.pair .str (.pair (.int .i64) (.one (.list (.pair (.int .i64) (.pair (.int .i64) (.one (.list (.pair (.int .i64) (.one .str)))))))))), 0),
 (37, (.pair .str (.pair (.int .i64) (.one (.list (.pair (.int .i64) (.pair (.int .i64) (.one (.list (.pair (.int .i64) (.one .str)))))))))), 0),
 (38, (.list (.pair (.int .i64) (.pair (.int .i64) (.one (.list (.pair (.int .i64) (.one .str))))))), 40),
 (39, (.pair .str (.pair (.int .i64) (.one (.list (.pair (.int .i64) (.pair (.int .i64) (.one (.list (.pair (.int .i64) (.one .str)))))))))), 0),
 (40, (.pair .str (.pair (.int .i64) (.one (.list (.pair (.int .i64) (.pair (.int .i64) (.one (.list (.pair (.int .i64) (.one .str)))))))))), 0),
 (47, (.list (.pair (.int .i64) (.one .str))), 24),
 (48, (.pair (.int .i64) (.pair (.int .i64) (.one (.list (.pair (.int .i64) (.one .str)))))), 0),
 (49, (.pair (.int .i64) (.pair (.int .i64) (.one (.list (.pair (.int .i64) (.one .str)))))), 0),
 (50, (.pair (.int .i64) (.one .str)), 0),
 (51, (.pair (.int .i64) (.one .str)), 0),
 (52, (.pair (.int .i64) (.pair (.int .i64) (.pair (.int .i64) (.one (.int .i64))))), 0),
 (62, (.list (.int .u8)), 1),
 (65, (.list (.pair (.int .i64) (.one .str))), 24),
 (66, (.pair (.int .i64) (.pair (.int .i64) (.one (.list (.pair (.int .i64) (.one .str)))))), 0),
 (67, (.pair (.int .i64) (.pair (.int .i64) (.one (.list (.pair (.int .i64) (.one .str)))))), 0),
 (72, (.list .str), 16),
 (93, (.int .u64), 0),
 (99, (.pair (.int .i64) (.one .str)), 0),
 (110, (.int .u32), 0),
 (113, (.int .u64), 0),
 (120, (.pair (.int .u8) (.one (.int .u8))), 0),
 (121, (.pair (.int .u8) (.one (.int .u8))), 0),
 (137, (.int .u8), 0),
 (138, (.int .u8), 0),
 (141, (.int .i32), 0),
 (142, (.int .i32), 0)]
def AR : ArrTab := [(52, 4)]
theorem tabOk_all : tabOk Tryd.prog AR TY = true := by kernel_rfl
theorem follows : Tryd.prog.follows .mixedOrders = true := by kernel_rfl
/-- strings.Trim at an ASCII cutset -/
def strings_Trim.f (s t : ByteArray) : Option ByteArray := trim1 s t
def strings_Trim.S : Abs.Sum := ⟨.cons (.val .str) (.cons (.val .str) .nil), [(0, .str)], fun _ x => strings_Trim.f x.1 x.2⟩
theorem strings_Trim.meets : Meets Tryd.prog 47 strings_Trim.S :=
  ⟨⟨_, Tryd.f47.body.getD .skip, (by kernel_rfl : Tryd.prog.funcs[47]? = some Tryd.f47), by kernel_rfl, by kernel_rfl⟩, trim_keeps Go.Proofs.YtkbhmdlljfknoaaDoor.Ext.trim_laid⟩
/-- strings.Contains at one byte -/
def strings_Contains.f (s t : ByteArray) : Option Bool := contains1 s t
def strings_Contains.S : Abs.Sum := ⟨.cons (.val .str) (.cons (.val .str) .nil), [(0, .bool)], fun _ x => strings_Contains.f x.1 x.2⟩
theorem strings_Contains.meets : Meets Tryd.prog 86 strings_Contains.S :=
  ⟨⟨_, Tryd.f86.body.getD .skip, (by kernel_rfl : Tryd.prog.funcs[86]? = some Tryd.f86), by kernel_rfl, by kernel_rfl⟩, contains_keeps Go.Proofs.YtkbhmdlljfknoaaDoor.Ext.contains_one⟩
/-- strconv.Itoa -/
def strconv_Itoa.f (n : Int) : Option ByteArray := itoa1 n
def strconv_Itoa.S : Abs.Sum := ⟨.cons (.val (.int .i64)) .nil, [(0, .str)], fun _ x => strconv_Itoa.f x⟩
theorem strconv_Itoa.meets : Meets Tryd.prog 28 strconv_Itoa.S :=
  ⟨⟨_, Tryd.f28.body.getD .skip, (by kernel_rfl : Tryd.prog.funcs[28]? = some Tryd.f28), by kernel_rfl, by kernel_rfl⟩, itoa_keeps (g := 0) (by kernel_rfl) Go.Proofs.YtkbhmdlljfknoaaDoor.Ext.itoa_laid⟩
/-- a call too deep -/
def spec_l1Num_z.f (x0 : Int) : Option ByteArray := none
def spec_l1Num_z.S : Abs.Sum := ⟨(.cons (.val (.int .i64)) .nil), [(0, .str)], fun _ x => spec_l1Num_z.f x⟩
theorem spec_l1Num_z.meets : Meets Tryd.prog 27 spec_l1Num_z.S :=
  ⟨⟨_, Tryd.f27.body.getD .skip, (by kernel_rfl : Tryd.prog.funcs[27]? = some Tryd.f27), by kernel_rfl, by kernel_rfl⟩, fun n w args x y S Fa h => nomatch (show (none : Option _) = some y from h)⟩
end Go.Abs.G
