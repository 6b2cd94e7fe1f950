/- The shelf's tables, laid at this program. -/
import Derived.Test.YtpnhpbeoibaaeaaE3
import Derived.Test.YtpnhpbeoibaaeaaProg
namespace Go.Proofs.Ytpnhpbeoibaaeaa.Ext
open Go Go.Proofs Go.Shelf
def lays_ren : Go.Shelf.Ren := ⟨fun | 144 => 106 | 143 => 116 | 219 => 119 | 217 => 120 | 225 => 121 | 224 => 122 | 267 => 123 | 266 => 124 | 314 => 125 | n => n, fun | 9 => 9 | 4 => 4 | 3 => 3 | 5 => 5 | 46 => 127 | 146 => 129 | 51 => 128 | n => n, fun | 1 => 0 | n => n⟩
theorem lays : Go.Proofs.Lays.n144 Try.prog lays_ren := {
  mixed := by kernel_rfl
  f143 := Try.func116.trans (congrArg some (by kernel_rfl))
  f144 := Try.func106.trans (congrArg some (by kernel_rfl))
  f217 := Try.func120.trans (congrArg some (by kernel_rfl))
  f219 := Try.func119.trans (congrArg some (by kernel_rfl))
  f224 := Try.func122.trans (congrArg some (by kernel_rfl))
  f225 := Try.func121.trans (congrArg some (by kernel_rfl))
  f266 := Try.func124.trans (congrArg some (by kernel_rfl))
  f267 := Try.func123.trans (congrArg some (by kernel_rfl))
  f314 := Try.func125.trans (congrArg some (by kernel_rfl))
  t3 := Try.underlying3
  a3 := Try.isAgg3
  z3 := Try.sizeOf3
  v3 := Try.zeroValue3
  t4 := Try.underlying4
  a4 := Try.isAgg4
  z4 := Try.sizeOf4
  v4 := Try.zeroValue4
  t5 := Try.underlying5
  a5 := Try.isAgg5
  z5 := Try.sizeOf5
  v5 := Try.zeroValue5
  t9 := Try.underlying9
  a9 := Try.isAgg9
  z9 := Try.sizeOf9
  v9 := Try.zeroValue9
  t46 := Try.underlying127
  a46 := Try.isAgg127
  z46 := Try.sizeOf127
  v46 := Try.zeroValue127
  t51 := Try.underlying128
  a51 := Try.isAgg128
  z51 := Try.sizeOf128
  v51 := Try.zeroValue128
  t146 := Try.underlying129
  a146 := Try.isAgg129
  z146 := Try.sizeOf129
  v146 := Try.zeroValue129
  g1 := by kernel_rfl }
open Go.RowKit Go.Lib in
theorem contains_one (s : ByteArray) (c : UInt8) (w : World) :
    Calls Try.prog 106 #[.string s, .string ⟨#[c]⟩] w fun e w' => e = .returned (.bool (decide (0 ≤ Go.Lib.indexByte s.data.toList c))) ∧ w' = w := Any.strings_Contains_one lays s c w
def clone_f40_ren : Go.Shelf.Ren := ⟨fun | 41 => 40 | n => n, fun | 22 => 22 | 23 => 9 | 4 => 4 | n => n, fun | n => n⟩
theorem clone_f40 : Go.Proofs.SlLaysE0.n41 Try.prog clone_f40_ren := {
  mixed := by kernel_rfl
  f41 := ⟨Try.f40.name, by decide, Try.func40.trans (congrArg some (by kernel_rfl))⟩
  t4 := Try.underlying4
  a4 := Try.isAgg4
  z4 := Try.sizeOf4
  v4 := Try.zeroValue4
  t22 := Try.underlying22
  a22 := Try.isAgg22
  z22 := Try.sizeOf22
  v22 := Try.zeroValue22 }
def clone_f114_ren : Go.Shelf.Ren := ⟨fun | 41 => 114 | n => n, fun | 22 => 115 | 23 => 26 | 4 => 4 | n => n, fun | n => n⟩
theorem clone_f114 : Go.Proofs.SlLaysE0.n41 Try.prog clone_f114_ren := {
  mixed := by kernel_rfl
  f41 := ⟨Try.f114.name, by decide, Try.func114.trans (congrArg some (by kernel_rfl))⟩
  t4 := Try.underlying4
  a4 := Try.isAgg4
  z4 := Try.sizeOf4
  v4 := Try.zeroValue4
  t22 := Try.underlying115
  a22 := Try.isAgg115
  z22 := Try.sizeOf115
  v22 := Try.zeroValue115 }
end Go.Proofs.Ytpnhpbeoibaaeaa.Ext
