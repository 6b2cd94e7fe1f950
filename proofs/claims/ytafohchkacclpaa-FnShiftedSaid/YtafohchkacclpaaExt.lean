/- The shelf's tables, laid at this program. -/
import Derived.Test.YtafohchkacclpaaE3
import Derived.Test.YtafohchkacclpaaProg
namespace Go.Proofs.Ytafohchkacclpaa.Ext
open Go Go.Proofs Go.Shelf
def lays_ren : Go.Shelf.Ren := ⟨fun | 144 => 170 | 143 => 178 | 219 => 180 | 217 => 182 | 225 => 183 | 224 => 184 | 267 => 185 | 266 => 186 | 314 => 187 | n => n, fun | 9 => 9 | 4 => 4 | 3 => 3 | 5 => 5 | 46 => 169 | 146 => 177 | 51 => 176 | n => n, fun | 1 => 0 | n => n⟩
theorem lays : Go.Proofs.Lays.n144 Try.prog lays_ren := {
  mixed := by kernel_rfl
  f143 := Try.func178.trans (congrArg some (by kernel_rfl))
  f144 := Try.func170.trans (congrArg some (by kernel_rfl))
  f217 := Try.func182.trans (congrArg some (by kernel_rfl))
  f219 := Try.func180.trans (congrArg some (by kernel_rfl))
  f224 := Try.func184.trans (congrArg some (by kernel_rfl))
  f225 := Try.func183.trans (congrArg some (by kernel_rfl))
  f266 := Try.func186.trans (congrArg some (by kernel_rfl))
  f267 := Try.func185.trans (congrArg some (by kernel_rfl))
  f314 := Try.func187.trans (congrArg some (by kernel_rfl))
  t3 := Try.underlying3
  a3 := Try.isAgg3
  z3 := Try.sizeOf3
  v3 := Try.zeroValue3
  t4 := Try.underlying4
  a4 := Try.isAgg4
  z4 := Try.sizeOf4
  v4 := Try.zeroValue4
  t5 := Try.underlying5
  a5 := Try.isAgg5
  z5 := Try.sizeOf5
  v5 := Try.zeroValue5
  t9 := Try.underlying9
  a9 := Try.isAgg9
  z9 := Try.sizeOf9
  v9 := Try.zeroValue9
  t46 := Try.underlying169
  a46 := Try.isAgg169
  z46 := Try.sizeOf169
  v46 := Try.zeroValue169
  t51 := Try.underlying176
  a51 := Try.isAgg176
  z51 := Try.sizeOf176
  v51 := Try.zeroValue176
  t146 := Try.underlying177
  a146 := Try.isAgg177
  z146 := Try.sizeOf177
  v146 := Try.zeroValue177
  g1 := by kernel_rfl }
open Go.RowKit Go.Lib in
theorem contains_one (s : ByteArray) (c : UInt8) (w : World) :
    Calls Try.prog 170 #[.string s, .string ⟨#[c]⟩] w fun e w' => e = .returned (.bool (decide (0 ≤ Go.Lib.indexByte s.data.toList c))) ∧ w' = w := Any.strings_Contains_one lays s c w
def clone_f91_ren : Go.Shelf.Ren := ⟨fun | 41 => 91 | n => n, fun | 22 => 39 | 23 => 110 | 4 => 4 | n => n, fun | n => n⟩
theorem clone_f91 : Go.Proofs.SlLaysE0.n41 Try.prog clone_f91_ren := {
  mixed := by kernel_rfl
  f41 := ⟨Try.f91.name, by decide, Try.func91.trans (congrArg some (by kernel_rfl))⟩
  t4 := Try.underlying4
  a4 := Try.isAgg4
  z4 := Try.sizeOf4
  v4 := Try.zeroValue4
  t22 := Try.underlying39
  a22 := Try.isAgg39
  z22 := Try.sizeOf39
  v22 := Try.zeroValue39 }
def clone_f108_ren : Go.Shelf.Ren := ⟨fun | 41 => 108 | n => n, fun | 22 => 22 | 23 => 9 | 4 => 4 | n => n, fun | n => n⟩
theorem clone_f108 : Go.Proofs.SlLaysE0.n41 Try.prog clone_f108_ren := {
  mixed := by kernel_rfl
  f41 := ⟨Try.f108.name, by decide, Try.func108.trans (congrArg some (by kernel_rfl))⟩
  t4 := Try.underlying4
  a4 := Try.isAgg4
  z4 := Try.sizeOf4
  v4 := Try.zeroValue4
  t22 := Try.underlying22
  a22 := Try.isAgg22
  z22 := Try.sizeOf22
  v22 := Try.zeroValue22 }
def clone_f171_ren : Go.Shelf.Ren := ⟨fun | 41 => 171 | n => n, fun | 22 => 145 | 23 => 24 | 4 => 4 | n => n, fun | n => n⟩
theorem clone_f171 : Go.Proofs.SlLaysE0.n41 Try.prog clone_f171_ren := {
  mixed := by kernel_rfl
  f41 := ⟨Try.f171.name, by decide, Try.func171.trans (congrArg some (by kernel_rfl))⟩
  t4 := Try.underlying4
  a4 := Try.isAgg4
  z4 := Try.sizeOf4
  v4 := Try.zeroValue4
  t22 := Try.underlying145
  a22 := Try.isAgg145
  z22 := Try.sizeOf145
  v22 := Try.zeroValue145 }
end Go.Proofs.Ytafohchkacclpaa.Ext
