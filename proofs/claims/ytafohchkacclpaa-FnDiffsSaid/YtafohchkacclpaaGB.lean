import Derived.Test.YtafohchkacclpaaE1
import Derived.Test.YtafohchkacclpaaE2
import Derived.Test.YtafohchkacclpaaE3
import Derived.Test.YtafohchkacclpaaProg
import Derived.Test.YtafohchkacclpaaExt
set_option linter.unusedVariables false
set_option linter.unusedSimpArgs false
namespace Go.Abs.G
open Go Go.Abs Go.Proofs
def TY : TyTab := [(2, (.int .i64), 0),
 (3, (.int .i64), 0),
 (4, .bool, 0),
 (5, (.int .u8), 0),
 (6, (.int .u8), 0),
 (9, .str, 0),
 (10, .str, 0),
 (11, .str, 0),
 (12, (.int .u64), 0),
 (21, (.int .i32), 0),
 (22, (.list .str), 16),
 (24, (.list (.int .i64)), 8),
 (33, (.list (.pair (.int .i64) (.one .str))), 24),
 (34, (.pair (.int .i64) (.pair (.int .i64) (.one (.list (.pair (.int .i64) (.one .str)))))), 0),
 (35, (.pair (.int .i64) (.pair (.int .i64) (.one (.list (.pair (.int .i64) (.one .str)))))), 0),
 (39, (.list (.pair (.int .i64) (.one .str))), 24),
 (40, (.pair (.int .i64) (.pair (.int .i64) (.one (.list (.pair (.int .i64) (.one .str)))))), 0),
 (41, (.pair (.int .i64) (.pair (.int .i64) (.one (.list (.pair (.int .i64) (.one .str)))))), 0),
 (50, (.list (.pair (.int .i64) (.pair (.int .i64) (.one (.list .str))))), 40),
 (55, (.list (.pair (.int .i64) (.pair (.int .i64) (.one (.list (.pair (.int .i64) (.one .str))))))), 40),
 (57, (.list (.pair (.int .i64) (.pair (.int .i64) (.one (.list (.pair (.int .i64) (.one .str))))))), 40),
 (64, (.list (.list .str)), 24),
 (66, (.list (.list (.pair (.int .i64) (.pair (.int .i64) (.one (.list .str)))))), 24),
 (67, (.pair (.list .str) (.one (.list (.list (.pair (.int .i64) (.pair (.int .i64) (.one (.list .str)))))))), 0),
 (68, (.pair (.list .str) (.one (.list (.list (.pair (.int .i64) (.pair (.int .i64) (.one (.list .str)))))))), 0),
 (76, (.list (.int .u8)), 1),
 (109, (.pair (.int .i64) (.one .str)), 0),
 (110, (.pair (.int .i64) (.one .str)), 0),
 (118, (.pair (.int .i64) (.pair (.int .i64) (.one (.list .str)))), 0),
 (119, (.pair (.int .i64) (.pair (.int .i64) (.one (.list .str)))), 0),
 (123, (.int .u64), 0),
 (124, (.pair (.list (.int .u8)) (.pair (.int .i64) (.one (.int .u64)))), 0),
 (125, (.pair (.list (.int .u8)) (.pair (.int .i64) (.one (.int .u64)))), 0),
 (142, (.list (.pair (.int .i64) (.one (.int .i64)))), 16),
 (145, (.list (.list (.int .i64))), 24),
 (148, (.pair (.int .i64) (.one .str)), 0),
 (164, (.pair (.int .i64) (.one (.int .i64))), 0),
 (169, (.int .u64), 0),
 (176, (.int .u32), 0),
 (184, (.int .u8), 0),
 (185, (.int .u8), 0),
 (188, (.int .i32), 0),
 (189, (.int .i32), 0)]
def AR : ArrTab := [(164, 2)]
theorem tabOk_all : tabOk Try.prog AR TY = true := by kernel_rfl
theorem follows : Try.prog.follows .mixedOrders = true := by kernel_rfl
/-- strings.Contains at one byte -/
def strings_Contains.f (s t : ByteArray) : Option Bool := contains1 s t
def strings_Contains.S : Abs.Sum := ⟨.cons (.val .str) (.cons (.val .str) .nil), [(0, .bool)], fun _ x => strings_Contains.f x.1 x.2⟩
theorem strings_Contains.meets : Meets Try.prog 170 strings_Contains.S :=
  ⟨⟨_, Try.f170.body.getD .skip, (by kernel_rfl : Try.prog.funcs[170]? = some Try.f170), by kernel_rfl, by kernel_rfl⟩, contains_keeps Go.Proofs.Ytafohchkacclpaa.Ext.contains_one⟩
/-- slices.Clone -/
def slices_Clone_LLint_Lint.f (xs : List (List Int)) : Option (List (List Int)) := clone1 24 xs
def slices_Clone_LLint_Lint.S : Abs.Sum := ⟨.cons (.val (.list (.list (.int .i64)))) .nil, [(1, .list (.list (.int .i64)))], fun _ x => slices_Clone_LLint_Lint.f x⟩
theorem slices_Clone_LLint_Lint.meets : Meets Try.prog 171 slices_Clone_LLint_Lint.S :=
  ⟨⟨_, Try.f171.body.getD .skip, (by kernel_rfl : Try.prog.funcs[171]? = some Try.f171), by kernel_rfl, by kernel_rfl⟩,
    clone_keeps (e := (.list (.int .i64))) (d := 1) (B := 24) (te := 24) Go.Proofs.Ytafohchkacclpaa.Ext.clone_f171 rfl rfl (tyOk_tab (b := 8) tabOk_all (by kernel_rfl)) (bytesIs (by kernel_rfl)) rfl⟩
/-- slices.Clone -/
def slices_Clone_Lstring_string.f (xs : List ByteArray) : Option (List ByteArray) := clone1 16 xs
def slices_Clone_Lstring_string.S : Abs.Sum := ⟨.cons (.val (.list .str)) .nil, [(9, .list .str)], fun _ x => slices_Clone_Lstring_string.f x⟩
theorem slices_Clone_Lstring_string.meets : Meets Try.prog 108 slices_Clone_Lstring_string.S :=
  ⟨⟨_, Try.f108.body.getD .skip, (by kernel_rfl : Try.prog.funcs[108]? = some Try.f108), by kernel_rfl, by kernel_rfl⟩,
    clone_keeps (e := .str) (d := 9) (B := 16) (te := 9) Go.Proofs.Ytafohchkacclpaa.Ext.clone_f108 rfl rfl (tyOk_tab (b := 0) tabOk_all (by kernel_rfl)) (bytesIs (by kernel_rfl)) rfl⟩
end Go.Abs.G
