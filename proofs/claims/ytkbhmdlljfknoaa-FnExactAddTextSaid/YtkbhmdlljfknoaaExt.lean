/- The shelf's tables, laid at this program. -/
import Derived.Test.YtkbhmdlljfknoaaE3
import Derived.Test.YtkbhmdlljfknoaaProg
namespace Go.Proofs.Ytkbhmdlljfknoaa.Ext
open Go Go.Proofs Go.Shelf
def lays_ren : Go.Shelf.Ren := ⟨fun | 144 => 211 | 143 => 232 | 219 => 240 | 217 => 242 | 225 => 243 | 224 => 244 | 267 => 245 | 266 => 246 | 314 => 247 | n => n, fun | 9 => 9 | 4 => 4 | 3 => 3 | 5 => 5 | 46 => 212 | 146 => 231 | 51 => 230 | n => n, fun | 1 => 0 | n => n⟩
theorem lays : Go.Proofs.Lays.n144 Try.prog lays_ren := {
  mixed := by kernel_rfl
  f143 := Try.func232.trans (congrArg some (by kernel_rfl))
  f144 := Try.func211.trans (congrArg some (by kernel_rfl))
  f217 := Try.func242.trans (congrArg some (by kernel_rfl))
  f219 := Try.func240.trans (congrArg some (by kernel_rfl))
  f224 := Try.func244.trans (congrArg some (by kernel_rfl))
  f225 := Try.func243.trans (congrArg some (by kernel_rfl))
  f266 := Try.func246.trans (congrArg some (by kernel_rfl))
  f267 := Try.func245.trans (congrArg some (by kernel_rfl))
  f314 := Try.func247.trans (congrArg some (by kernel_rfl))
  t3 := Try.underlying3
  a3 := Try.isAgg3
  z3 := Try.sizeOf3
  v3 := Try.zeroValue3
  t4 := Try.underlying4
  a4 := Try.isAgg4
  z4 := Try.sizeOf4
  v4 := Try.zeroValue4
  t5 := Try.underlying5
  a5 := Try.isAgg5
  z5 := Try.sizeOf5
  v5 := Try.zeroValue5
  t9 := Try.underlying9
  a9 := Try.isAgg9
  z9 := Try.sizeOf9
  v9 := Try.zeroValue9
  t46 := Try.underlying212
  a46 := Try.isAgg212
  z46 := Try.sizeOf212
  v46 := Try.zeroValue212
  t51 := Try.underlying230
  a51 := Try.isAgg230
  z51 := Try.sizeOf230
  v51 := Try.zeroValue230
  t146 := Try.underlying231
  a146 := Try.isAgg231
  z146 := Try.sizeOf231
  v146 := Try.zeroValue231
  g1 := by kernel_rfl }
open Go.RowKit Go.Lib in
theorem contains_one (s : ByteArray) (c : UInt8) (w : World) :
    Calls Try.prog 211 #[.string s, .string ⟨#[c]⟩] w fun e w' => e = .returned (.bool (decide (0 ≤ Go.Lib.indexByte s.data.toList c))) ∧ w' = w := Any.strings_Contains_one lays s c w
def clone_f117_ren : Go.Shelf.Ren := ⟨fun | 41 => 117 | n => n, fun | 22 => 51 | 23 => 60 | 4 => 4 | n => n, fun | n => n⟩
theorem clone_f117 : Go.Proofs.SlLaysE0.n41 Try.prog clone_f117_ren := {
  mixed := by kernel_rfl
  f41 := ⟨Try.f117.name, by decide, Try.func117.trans (congrArg some (by kernel_rfl))⟩
  t4 := Try.underlying4
  a4 := Try.isAgg4
  z4 := Try.sizeOf4
  v4 := Try.zeroValue4
  t22 := Try.underlying51
  a22 := Try.isAgg51
  z22 := Try.sizeOf51
  v22 := Try.zeroValue51 }
def clone_f120_ren : Go.Shelf.Ren := ⟨fun | 41 => 120 | n => n, fun | 22 => 22 | 23 => 9 | 4 => 4 | n => n, fun | n => n⟩
theorem clone_f120 : Go.Proofs.SlLaysE0.n41 Try.prog clone_f120_ren := {
  mixed := by kernel_rfl
  f41 := ⟨Try.f120.name, by decide, Try.func120.trans (congrArg some (by kernel_rfl))⟩
  t4 := Try.underlying4
  a4 := Try.isAgg4
  z4 := Try.sizeOf4
  v4 := Try.zeroValue4
  t22 := Try.underlying22
  a22 := Try.isAgg22
  z22 := Try.sizeOf22
  v22 := Try.zeroValue22 }
def clone_f209_ren : Go.Shelf.Ren := ⟨fun | 41 => 209 | n => n, fun | 22 => 50 | 23 => 121 | 4 => 4 | n => n, fun | n => n⟩
theorem clone_f209 : Go.Proofs.SlLaysE0.n41 Try.prog clone_f209_ren := {
  mixed := by kernel_rfl
  f41 := ⟨Try.f209.name, by decide, Try.func209.trans (congrArg some (by kernel_rfl))⟩
  t4 := Try.underlying4
  a4 := Try.isAgg4
  z4 := Try.sizeOf4
  v4 := Try.zeroValue4
  t22 := Try.underlying50
  a22 := Try.isAgg50
  z22 := Try.sizeOf50
  v22 := Try.zeroValue50 }
def clone_f230_ren : Go.Shelf.Ren := ⟨fun | 41 => 230 | n => n, fun | 22 => 207 | 23 => 75 | 4 => 4 | n => n, fun | n => n⟩
theorem clone_f230 : Go.Proofs.SlLaysE0.n41 Try.prog clone_f230_ren := {
  mixed := by kernel_rfl
  f41 := ⟨Try.f230.name, by decide, Try.func230.trans (congrArg some (by kernel_rfl))⟩
  t4 := Try.underlying4
  a4 := Try.isAgg4
  z4 := Try.sizeOf4
  v4 := Try.zeroValue4
  t22 := Try.underlying207
  a22 := Try.isAgg207
  z22 := Try.sizeOf207
  v22 := Try.zeroValue207 }
end Go.Proofs.Ytkbhmdlljfknoaa.Ext
