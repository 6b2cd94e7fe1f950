import Derived.Test.YtafohchkacclpaaE1
import Derived.Test.YtafohchkacclpaaE2
import Derived.Test.YtafohchkacclpaaE3
import Derived.Test.YtafohchkacclpaaProg
import Derived.Test.YtafohchkacclpaaExt
set_option linter.unusedVariables false
set_option linter.unusedSimpArgs false
set_option linter.unusedSectionVars false
namespace Go.Abs.G
open Go Go.Abs Go.Proofs
def TY : TyTab := [(2, (.int .i64), 0),
 (3, (.int .i64), 0),
 (4, .bool, 0),
 (5, (.int .u8), 0),
 (6, (.int .u8), 0),
 (9, .str, 0),
 (10, .str, 0),
 (11, .str, 0),
 (12, (.int .u64), 0),
 (21, (.int .i32), 0),
 (22, (.list .str), 16),
 (24, (.list (.int .i64)), 8),
 (33, (.list (.pair (.int .i64) (.one .str))), 24),
 (34, (.pair (.int .i64) (.pair (.int .i64) (.one (.list (.pair (.int .i64) (.one .str)))))), 0),
 (35, (.pair (.int .i64) (.pair (.int .i64) (.one (.list (.pair (.int .i64) (.one .str)))))), 0),
 (39, (.list (.pair (.int .i64) (.one .str))), 24),
 (40, (.pair (.int .i64) (.pair (.int .i64) (.one (.list (.pair (.int .i64) (.one .str)))))), 0),
 (41, (.pair (.int .i64) (.pair (.int .i64) (.one (.list (.pair (.int .i64) (.one .str)))))), 0),
 (50, (.list (.pair (.int .i64) (.pair (.int .i64) (.one (.list .str))))), 40),
 (55, (.list (.pair (.int .i64) (.pair (.int .i64) (.one (.list (.pair (.int .i64) (.one .str))))))), 40),
 (57, (.list (.pair (.int .i64) (.pair (.int .i64) (.one (.list (.pair (.int .i64) (.one .str))))))), 40),
 (64, (.list (.list .str)), 24),
 (66, (.list (.list (.pair (.int .i64) (.pair (.int .i64) (.one (.list .str)))))), 24),
 (67, (.pair (.list .str) (.one (.list (.list (.pair (.int .i64) (.pair (.int .i64) (.one (.list .str)))))))), 0),
 (68, (.pair (.list .str) (.one (.list (.list (.pair (.int .i64) (.pair (.int .i64) (.one (.list .str)))))))), 0),
 (76, (.list (.int .u8)), 1),
 (109, (.pair (.int .i64) (.one .str)), 0),
 (110, (.pair (.int .i64) (.one .str)), 0),
 (118, (.pair (.int .i64) (.pair (.int .i64) (.one (.list .str)))), 0),
 (119, (.pair (.int .i64) (.pair (.int .i64) (.one (.list .str)))), 0),
 (123, (.int .u64), 0),
 (124, (.pair (.list (.int .u8)) (.pair (.int .i64) (.one (.int .u64)))), 0),
 (125, (.pair (.list (.int .u8)) (.pair (.int .i64) (.one (.int .u64)))), 0),
 (142, (.list (.pair (.int .i64) (.one (.int .i64)))), 16),
 (145, (.list (.list (.int .i64))), 24),
 (148, (.pair (.int .i64) (.one .str)), 0),
 (164, (.pair (.int .i64) (.one (.int .i64))), 0),
 (169, (.int .u64), 0),
 (176, (.int .u32), 0),
 (184, (.int .u8), 0),
 (185, (.int .u8), 0),
 (188, (.int .i32), 0),
 (189, (.int .i32), 0)]
def AR : ArrTab := [(164, 2)]
theorem tabOk_all : tabOk Try.prog AR TY = true := by kernel_rfl
theorem follows : Try.prog.follows .mixedOrders = true := by kernel_rfl
/-- strings.Contains at one byte -/
def strings_Contains.f (s t : ByteArray) : Option Bool := contains1 s t
def strings_Contains.S : Abs.Sum := ⟨.cons (.val .str) (.cons (.val .str) .nil), [(0, .bool)], fun _ x => strings_Contains.f x.1 x.2⟩
theorem strings_Contains.meets : Meets Try.prog 170 strings_Contains.S :=
  ⟨⟨_, Try.f170.body.getD .skip, (by kernel_rfl : Try.prog.funcs[170]? = some Try.f170), by kernel_rfl, by kernel_rfl⟩, contains_keeps Go.Proofs.Ytafohchkacclpaa.Ext.contains_one⟩
/-- slices.Clone -/
def slices_Clone_Limpl_Row_impl_Row.f (xs : List (Int × ByteArray)) : Option (List (Int × ByteArray)) := clone1 24 xs
def slices_Clone_Limpl_Row_impl_Row.S : Abs.Sum := ⟨.cons (.val (.list (.pair (.int .i64) (.one .str)))) .nil, [(9, .list (.pair (.int .i64) (.one .str)))], fun _ x => slices_Clone_Limpl_Row_impl_Row.f x⟩
theorem slices_Clone_Limpl_Row_impl_Row.meets : Meets Try.prog 91 slices_Clone_Limpl_Row_impl_Row.S :=
  ⟨⟨_, Try.f91.body.getD .skip, (by kernel_rfl : Try.prog.funcs[91]? = some Try.f91), by kernel_rfl, by kernel_rfl⟩,
    clone_keeps (e := (.pair (.int .i64) (.one .str))) (d := 9) (B := 24) (te := 110) Go.Proofs.Ytafohchkacclpaa.Ext.clone_f91 rfl rfl (tyOk_tab (b := 0) tabOk_all (by kernel_rfl)) (bytesIs (by kernel_rfl)) rfl⟩
end Go.Abs.G
