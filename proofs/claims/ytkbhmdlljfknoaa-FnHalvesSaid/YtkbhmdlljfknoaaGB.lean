import Derived.Test.YtkbhmdlljfknoaaE1
import Derived.Test.YtkbhmdlljfknoaaE2
import Derived.Test.YtkbhmdlljfknoaaE3
import Derived.Test.YtkbhmdlljfknoaaProg
import Derived.Test.YtkbhmdlljfknoaaExt
set_option linter.unusedVariables false
set_option linter.unusedSimpArgs false
set_option linter.unusedSectionVars false
namespace Go.Abs.G
open Go Go.Abs Go.Proofs
def TY : TyTab := [(2, (.int .i64), 0),
 (3, (.int .i64), 0),
 (4, .bool, 0),
 (5, (.int .u8), 0),
 (6, (.int .u8), 0),
 (9, .str, 0),
 (10, .str, 0),
 (11, .str, 0),
 (12, (.int .u64), 0),
 (21, (.int .i32), 0),
 (22, (.list .str), 16),
 (23, (.list (.list (.pair (.int .i64) (.pair (.int .i64) (.one (.list .str)))))), 24),
 (24, (.pair (.list .str) (.one (.list (.list (.pair (.int .i64) (.pair (.int .i64) (.one (.list .str)))))))), 0),
 (25, (.pair (.list .str) (.one (.list (.list (.pair (.int .i64) (.pair (.int .i64) (.one (.list .str)))))))), 0),
 (28, (.list (.list (.pair (.int .i64) (.pair (.int .i64) (.one (.list .str)))))), 24),
 (29, (.pair (.list .str) (.one (.list (.list (.pair (.int .i64) (.pair (.int .i64) (.one (.list .str)))))))), 0),
 (30, (.pair (.list .str) (.one (.list (.list (.pair (.int .i64) (.pair (.int .i64) (.one (.list .str)))))))), 0),
 (39, (.list (.int .u8)), 1),
 (50, (.list (.pair (.int .i64) (.pair (.int .i64) (.one (.list .str))))), 40),
 (51, (.list (.pair (.int .i64) (.one .str))), 24),
 (52, (.pair (.int .i64) (.pair (.int .i64) (.one (.list (.pair (.int .i64) (.one .str)))))), 0),
 (53, (.pair (.int .i64) (.pair (.int .i64) (.one (.list (.pair (.int .i64) (.one .str)))))), 0),
 (56, (.list (.pair (.int .i64) (.pair (.int .i64) (.one (.list (.pair (.int .i64) (.one .str))))))), 40),
 (59, (.pair (.int .i64) (.one .str)), 0),
 (60, (.pair (.int .i64) (.one .str)), 0),
 (67, (.list (.list .str)), 24),
 (73, (.list (.pair (.int .i64) (.pair (.int .i64) (.one (.list (.pair (.int .i64) (.one .str))))))), 40),
 (75, (.list (.int .i64)), 8),
 (96, (.list (.pair (.int .i64) (.pair (.int .i64) (.pair (.int .i64) (.one (.list .str)))))), 48),
 (99, (.list (.pair (.int .i64) (.pair (.int .i64) (.pair (.int .i64) (.one (.list .str)))))), 48),
 (120, (.pair (.int .i64) (.pair (.int .i64) (.one (.list .str)))), 0),
 (121, (.pair (.int .i64) (.pair (.int .i64) (.one (.list .str)))), 0),
 (124, (.int .u64), 0),
 (125, (.pair (.list (.int .u8)) (.pair (.int .i64) (.one (.int .u64)))), 0),
 (126, (.pair (.list (.int .u8)) (.pair (.int .i64) (.one (.int .u64)))), 0),
 (141, (.list (.pair (.int .i64) (.one .str))), 24),
 (142, (.pair (.int .i64) (.pair (.int .i64) (.one (.list (.pair (.int .i64) (.one .str)))))), 0),
 (143, (.pair (.int .i64) (.pair (.int .i64) (.one (.list (.pair (.int .i64) (.one .str)))))), 0),
 (162, (.pair (.int .i64) (.pair (.int .i64) (.pair (.int .i64) (.one (.list .str))))), 0),
 (163, (.pair (.int .i64) (.pair (.int .i64) (.pair (.int .i64) (.one (.list .str))))), 0),
 (167, (.pair (.int .i64) (.pair (.int .i64) (.pair (.int .i64) (.one (.list .str))))), 0),
 (174, (.list (.pair (.int .i64) (.pair (.int .i64) (.one (.list .str))))), 40),
 (201, (.pair (.int .i64) (.pair (.int .i64) (.one (.list .str)))), 0),
 (203, (.list (.pair (.int .i64) (.one (.int .i64)))), 16),
 (207, (.list (.list (.int .i64))), 24),
 (212, (.int .u64), 0),
 (215, (.pair (.int .i64) (.one .str)), 0),
 (222, (.pair (.int .i64) (.one (.int .i64))), 0),
 (230, (.int .u32), 0),
 (238, (.int .u8), 0),
 (239, (.int .u8), 0),
 (242, (.int .i32), 0),
 (243, (.int .i32), 0)]
def AR : ArrTab := [(222, 2)]
theorem tabOk_all : tabOk Try.prog AR TY = true := by kernel_rfl
theorem follows : Try.prog.follows .mixedOrders = true := by kernel_rfl
/-- strings.Contains at one byte -/
def strings_Contains.f (s t : ByteArray) : Option Bool := contains1 s t
def strings_Contains.S : Abs.Sum := ⟨.cons (.val .str) (.cons (.val .str) .nil), [(0, .bool)], fun _ x => strings_Contains.f x.1 x.2⟩
theorem strings_Contains.meets : Meets Try.prog 211 strings_Contains.S :=
  ⟨⟨_, Try.f211.body.getD .skip, (by kernel_rfl : Try.prog.funcs[211]? = some Try.f211), by kernel_rfl, by kernel_rfl⟩, contains_keeps Go.Proofs.Ytkbhmdlljfknoaa.Ext.contains_one⟩
/-- slices.Clone -/
def slices_Clone_Limpl_Row_impl_Row.f (xs : List (Int × ByteArray)) : Option (List (Int × ByteArray)) := clone1 24 xs
def slices_Clone_Limpl_Row_impl_Row.S : Abs.Sum := ⟨.cons (.val (.list (.pair (.int .i64) (.one .str)))) .nil, [(9, .list (.pair (.int .i64) (.one .str)))], fun _ x => slices_Clone_Limpl_Row_impl_Row.f x⟩
theorem slices_Clone_Limpl_Row_impl_Row.meets : Meets Try.prog 117 slices_Clone_Limpl_Row_impl_Row.S :=
  ⟨⟨_, Try.f117.body.getD .skip, (by kernel_rfl : Try.prog.funcs[117]? = some Try.f117), by kernel_rfl, by kernel_rfl⟩,
    clone_keeps (e := (.pair (.int .i64) (.one .str))) (d := 9) (B := 24) (te := 60) Go.Proofs.Ytkbhmdlljfknoaa.Ext.clone_f117 rfl rfl (tyOk_tab (b := 0) tabOk_all (by kernel_rfl)) (bytesIs (by kernel_rfl)) rfl⟩
end Go.Abs.G
