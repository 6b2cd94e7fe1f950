import Derived.Test.YtkbhmdlljfknoaaGreatDoorE1
import Derived.Test.YtkbhmdlljfknoaaGreatDoorE2
import Derived.Test.YtkbhmdlljfknoaaGreatDoorE3
import Derived.Test.YtkbhmdlljfknoaaGreatDoorProg
import Derived.Test.YtkbhmdlljfknoaaGreatDoorExt
set_option linter.unusedVariables false
set_option linter.unusedSimpArgs false
set_option linter.unusedSectionVars false
namespace Go.Abs.G
open Go Go.Abs Go.Proofs
def TY : TyTab := [(2, (.int .i64), 0),
 (3, (.int .i64), 0),
 (4, .bool, 0),
 (5, (.int .u8), 0),
 (6, (.int .u8), 0),
 (9, .str, 0),
 (10, .str, 0),
 (11, .str, 0),
 (12, (.int .u64), 0),
 (21, (.int .i32), 0),
 (22, (.list (.pair .str (.pair (.int .i64) (.one (.list (.pair (.int .i64) (.pair (.int .i64) (.one (.list (.pair (.int .i64) (.one .str))))))))))), 48),
 (26, (.list (.pair .str (.pair (.int .i64) (.one (.list (.pair (.int .i64) (.pair (.int .i64) (.one (.list (.pair (.int .i64) (.one .str))))))))))), 48),
 (31, (.list (.pair (.int .i64) (.pair (.int .i64) (.one (.list (.pair (.int .i64) (.one .str))))))), 40),
 (32, (.pair .str (.pair (.int .i64) (.one (.list (.pair (.int .i64) (.pair (.int .i64) (.one (.list (.pair (.int .i64) (.one .str)))))))))), 0),
 (33, (.pair .str (.pair (.int .i64) (.one (.list (.pair (.int .i64) (.pair (.int .i64) (.one (.list (.pair (.int .i64) (.one .str)))))))))), 0),
 (36, (.list (.pair (.int .i64) (.pair (.int .i64) (.one (.list (.pair (.int .i64) (.one .str))))))), 40),
 (37, (.pair .str (.pair (.int .i64) (.one (.list (.pair (.int .i64) (.pair (.int .i64) (.one (.list (.pair (.int .i64) (.one .str)))))))))), 0),
 (38, (.pair .str (.pair (.int .i64) (.one (.list (.pair (.int .i64) (.pair (.int .i64) (.one (.list (.pair (.int .i64) (.one .str)))))))))), 0),
 (51, (.list (.pair (.int .i64) (.one .str))), 24),
 (52, (.pair (.int .i64) (.pair (.int .i64) (.one (.list (.pair (.int .i64) (.one .str)))))), 0),
 (53, (.pair (.int .i64) (.pair (.int .i64) (.one (.list (.pair (.int .i64) (.one .str)))))), 0),
 (56, (.list .str), 16),
 (61, (.list (.pair (.int .i64) (.one .str))), 24),
 (62, (.pair (.int .i64) (.pair (.int .i64) (.one (.list (.pair (.int .i64) (.one .str)))))), 0),
 (63, (.pair (.int .i64) (.pair (.int .i64) (.one (.list (.pair (.int .i64) (.one .str)))))), 0),
 (65, (.pair (.int .i64) (.one .str)), 0),
 (66, (.pair (.int .i64) (.one .str)), 0),
 (91, (.pair (.int .i64) (.one .str)), 0),
 (92, (.list (.int .u8)), 1),
 (105, (.int .u64), 0),
 (111, (.int .u64), 0),
 (112, (.pair (.int .u8) (.one (.int .u8))), 0),
 (113, (.pair (.int .u8) (.one (.int .u8))), 0),
 (121, (.int .u32), 0),
 (136, (.int .u8), 0),
 (137, (.int .u8), 0),
 (140, (.int .i32), 0),
 (141, (.int .i32), 0)]
def AR : ArrTab := []
theorem tabOk_all : tabOk Tryz.prog AR TY = true := by kernel_rfl
theorem follows : Tryz.prog.follows .mixedOrders = true := by kernel_rfl
/-- strings.Trim at an ASCII cutset -/
def strings_Trim.f (s t : ByteArray) : Option ByteArray := trim1 s t
def strings_Trim.S : Abs.Sum := ⟨.cons (.val .str) (.cons (.val .str) .nil), [(0, .str)], fun _ x => strings_Trim.f x.1 x.2⟩
theorem strings_Trim.meets : Meets Tryz.prog 44 strings_Trim.S :=
  ⟨⟨_, Tryz.f44.body.getD .skip, (by kernel_rfl : Tryz.prog.funcs[44]? = some Tryz.f44), by kernel_rfl, by kernel_rfl⟩, trim_keeps Go.Proofs.YtkbhmdlljfknoaaGreatDoor.Ext.trim_laid⟩
/-- strings.Contains at one byte -/
def strings_Contains.f (s t : ByteArray) : Option Bool := contains1 s t
def strings_Contains.S : Abs.Sum := ⟨.cons (.val .str) (.cons (.val .str) .nil), [(0, .bool)], fun _ x => strings_Contains.f x.1 x.2⟩
theorem strings_Contains.meets : Meets Tryz.prog 84 strings_Contains.S :=
  ⟨⟨_, Tryz.f84.body.getD .skip, (by kernel_rfl : Tryz.prog.funcs[84]? = some Tryz.f84), by kernel_rfl, by kernel_rfl⟩, contains_keeps Go.Proofs.YtkbhmdlljfknoaaGreatDoor.Ext.contains_one⟩
/-- strconv.Itoa -/
def strconv_Itoa.f (n : Int) : Option ByteArray := itoa1 n
def strconv_Itoa.S : Abs.Sum := ⟨.cons (.val (.int .i64)) .nil, [(0, .str)], fun _ x => strconv_Itoa.f x⟩
theorem strconv_Itoa.meets : Meets Tryz.prog 49 strconv_Itoa.S :=
  ⟨⟨_, Tryz.f49.body.getD .skip, (by kernel_rfl : Tryz.prog.funcs[49]? = some Tryz.f49), by kernel_rfl, by kernel_rfl⟩, itoa_keeps (g := 2) (by kernel_rfl) Go.Proofs.YtkbhmdlljfknoaaGreatDoor.Ext.itoa_laid⟩
/-- a call too deep -/
def spec_l1Num_z.f (x0 : Int) : Option ByteArray := none
def spec_l1Num_z.S : Abs.Sum := ⟨(.cons (.val (.int .i64)) .nil), [(0, .str)], fun _ x => spec_l1Num_z.f x⟩
theorem spec_l1Num_z.meets : Meets Tryz.prog 59 spec_l1Num_z.S :=
  ⟨⟨_, Tryz.f59.body.getD .skip, (by kernel_rfl : Tryz.prog.funcs[59]? = some Tryz.f59), by kernel_rfl, by kernel_rfl⟩, fun n w args x y S Fa h => nomatch (show (none : Option _) = some y from h)⟩
end Go.Abs.G
