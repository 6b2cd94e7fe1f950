import Derived.Test.YtdbaolmokbckgaaDoorE1
import Derived.Test.YtdbaolmokbckgaaDoorE2
import Derived.Test.YtdbaolmokbckgaaDoorE3
import Derived.Test.YtdbaolmokbckgaaDoorProg
import Derived.Test.YtdbaolmokbckgaaDoorExt
set_option linter.unusedVariables false
set_option linter.unusedSimpArgs false
set_option linter.unusedSectionVars false
namespace Go.Abs.G
open Go Go.Abs Go.Proofs
def TY : TyTab := [(2, (.int .i64), 0),
 (3, (.int .i64), 0),
 (4, .bool, 0),
 (5, (.int .u8), 0),
 (6, (.int .u8), 0),
 (9, .str, 0),
 (10, .str, 0),
 (11, .str, 0),
 (12, (.int .u64), 0),
 (21, (.int .i32), 0),
 (22, (.list (.pair .str (.one (.list .str)))), 40),
 (25, (.list (.pair .str (.one (.list .str)))), 40),
 (30, (.list .str), 16),
 (31, (.pair .str (.one (.list .str))), 0),
 (32, (.pair .str (.one (.list .str))), 0),
 (33, (.pair .str (.one (.list .str))), 0),
 (60, (.int .u64), 0),
 (61, (.pair (.int .u8) (.one (.int .u8))), 0),
 (62, (.pair (.int .u8) (.one (.int .u8))), 0),
 (67, (.int .u32), 0),
 (77, (.int .u8), 0),
 (78, (.int .u8), 0),
 (81, (.int .i32), 0),
 (82, (.int .i32), 0)]
def AR : ArrTab := []
theorem tabOk_all : tabOk Tryd.prog AR TY = true := by kernel_rfl
theorem follows : Tryd.prog.follows .mixedOrders = true := by kernel_rfl
/-- strings.Trim at an ASCII cutset -/
def strings_Trim.f (s t : ByteArray) : Option ByteArray := trim1 s t
def strings_Trim.S : Abs.Sum := ⟨.cons (.val .str) (.cons (.val .str) .nil), [(0, .str)], fun _ x => strings_Trim.f x.1 x.2⟩
theorem strings_Trim.meets : Meets Tryd.prog 25 strings_Trim.S :=
  ⟨⟨_, Tryd.f25.body.getD .skip, (by kernel_rfl : Tryd.prog.funcs[25]? = some Tryd.f25), by kernel_rfl, by kernel_rfl⟩, trim_keeps Go.Proofs.YtdbaolmokbckgaaDoor.Ext.trim_laid⟩
/-- strings.Contains at one byte -/
def strings_Contains.f (s t : ByteArray) : Option Bool := contains1 s t
def strings_Contains.S : Abs.Sum := ⟨.cons (.val .str) (.cons (.val .str) .nil), [(0, .bool)], fun _ x => strings_Contains.f x.1 x.2⟩
theorem strings_Contains.meets : Meets Tryd.prog 44 strings_Contains.S :=
  ⟨⟨_, Tryd.f44.body.getD .skip, (by kernel_rfl : Tryd.prog.funcs[44]? = some Tryd.f44), by kernel_rfl, by kernel_rfl⟩, contains_keeps Go.Proofs.YtdbaolmokbckgaaDoor.Ext.contains_one⟩
end Go.Abs.G
