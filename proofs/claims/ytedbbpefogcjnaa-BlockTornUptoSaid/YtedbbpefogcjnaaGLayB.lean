-- by a program of this session
import Derived.Test.YtedbbpefogcjnaaChecked
import Derived.Shelf.SlicesQ.IndexFunc
import Derived.Shelf.SlicesE.IndexFunc
set_option linter.unusedVariables false
set_option linter.unusedSimpArgs false
/-! The library's functions over this program: where the shelf's contracts lie. -/
namespace Go.Proofs
open Go.Shelf Go.RowKit Go.Lib Go.Sort
def Try.lay_hass_ren : Go.Shelf.Ren := ⟨fun | 8 => 27 | 6 => 37 | n => n, fun | 22 => 22 | 23 => 9 | 25 => 60 | 4 => 4 | 3 => 3 | 0 => 0 | n => n, fun | n => n⟩
theorem Try.lay_hass : Go.Proofs.SlLaysH.n8 Try.prog Try.lay_hass_ren := {
  mixed := by kernel_rfl,
  f6 := ⟨Try.f37.name, by decide, Try.func37.trans (congrArg some (by kernel_rfl))⟩,
  f8 := ⟨Try.f27.name, by decide, Try.func27.trans (congrArg some (by kernel_rfl))⟩,
  t0 := Try.underlying0,
  a0 := Try.isAgg0,
  z0 := Try.sizeOf0,
  v0 := Try.zeroValue0,
  t3 := Try.underlying3,
  a3 := Try.isAgg3,
  z3 := Try.sizeOf3,
  v3 := Try.zeroValue3,
  t4 := Try.underlying4,
  a4 := Try.isAgg4,
  z4 := Try.sizeOf4,
  v4 := Try.zeroValue4,
  t22 := Try.underlying22,
  a22 := Try.isAgg22,
  z22 := Try.sizeOf22,
  v22 := Try.zeroValue22,
  a23 := Try.isAgg9,
  z23 := Try.sizeOf9,
  t25 := Try.underlying60,
  a25 := Try.isAgg60,
  z25 := Try.sizeOf60,
  v25 := Try.zeroValue60 }
def Try.lay_hasw_ren : Go.Shelf.Ren := ⟨fun | 8 => 29 | 6 => 38 | n => n, fun | 22 => 23 | 23 => 39 | 25 => 62 | 4 => 4 | 3 => 3 | 0 => 0 | n => n, fun | n => n⟩
theorem Try.lay_hasw : Go.Proofs.SlLaysH0.n8 Try.prog Try.lay_hasw_ren := {
  mixed := by kernel_rfl,
  f6 := ⟨Try.f38.name, by decide, Try.func38.trans (congrArg some (by kernel_rfl))⟩,
  f8 := ⟨Try.f29.name, by decide, Try.func29.trans (congrArg some (by kernel_rfl))⟩,
  t0 := Try.underlying0,
  a0 := Try.isAgg0,
  z0 := Try.sizeOf0,
  v0 := Try.zeroValue0,
  t3 := Try.underlying3,
  a3 := Try.isAgg3,
  z3 := Try.sizeOf3,
  v3 := Try.zeroValue3,
  t4 := Try.underlying4,
  a4 := Try.isAgg4,
  z4 := Try.sizeOf4,
  v4 := Try.zeroValue4,
  t22 := Try.underlying23,
  a22 := Try.isAgg23,
  z22 := Try.sizeOf23,
  v22 := Try.zeroValue23,
  t25 := Try.underlying62,
  a25 := Try.isAgg62,
  z25 := Try.sizeOf62,
  v25 := Try.zeroValue62 }

end Go.Proofs
