-- by a program of this session
import Derived.Test.YthlnjbaichkipaaDoorChecked
import Derived.Shelf.SlicesQ.IndexFunc
import Derived.Shelf.SlicesE.IndexFunc
set_option linter.unusedVariables false
set_option linter.unusedSimpArgs false
namespace Go.Proofs
open Go.Shelf Go.RowKit Go.Lib Go.Sort
def Tryd.lay_hass_ren : Go.Shelf.Ren := ⟨fun | 8 => 48 | 6 => 63 | n => n, fun | 22 => 22 | 23 => 9 | 25 => 98 | 4 => 4 | 3 => 3 | 0 => 0 | n => n, fun | n => n⟩
theorem Tryd.lay_hass : Go.Proofs.SlLaysH.n8 Tryd.prog Tryd.lay_hass_ren := {
  mixed := by kernel_rfl,
  f6 := ⟨Tryd.f63.name, by decide, Tryd.func63.trans (congrArg some (by kernel_rfl))⟩,
  f8 := ⟨Tryd.f48.name, by decide, Tryd.func48.trans (congrArg some (by kernel_rfl))⟩,
  t0 := Tryd.underlying0,
  a0 := Tryd.isAgg0,
  z0 := Tryd.sizeOf0,
  v0 := Tryd.zeroValue0,
  t3 := Tryd.underlying3,
  a3 := Tryd.isAgg3,
  z3 := Tryd.sizeOf3,
  v3 := Tryd.zeroValue3,
  t4 := Tryd.underlying4,
  a4 := Tryd.isAgg4,
  z4 := Tryd.sizeOf4,
  v4 := Tryd.zeroValue4,
  t22 := Tryd.underlying22,
  a22 := Tryd.isAgg22,
  z22 := Tryd.sizeOf22,
  v22 := Tryd.zeroValue22,
  a23 := Tryd.isAgg9,
  z23 := Tryd.sizeOf9,
  t25 := Tryd.underlying98,
  a25 := Tryd.isAgg98,
  z25 := Tryd.sizeOf98,
  v25 := Tryd.zeroValue98 }
def Tryd.lay_hasw_ren : Go.Shelf.Ren := ⟨fun | 8 => 50 | 6 => 64 | n => n, fun | 22 => 23 | 23 => 60 | 25 => 100 | 4 => 4 | 3 => 3 | 0 => 0 | n => n, fun | n => n⟩
theorem Tryd.lay_hasw : Go.Proofs.SlLaysH0.n8 Tryd.prog Tryd.lay_hasw_ren := {
  mixed := by kernel_rfl,
  f6 := ⟨Tryd.f64.name, by decide, Tryd.func64.trans (congrArg some (by kernel_rfl))⟩,
  f8 := ⟨Tryd.f50.name, by decide, Tryd.func50.trans (congrArg some (by kernel_rfl))⟩,
  t0 := Tryd.underlying0,
  a0 := Tryd.isAgg0,
  z0 := Tryd.sizeOf0,
  v0 := Tryd.zeroValue0,
  t3 := Tryd.underlying3,
  a3 := Tryd.isAgg3,
  z3 := Tryd.sizeOf3,
  v3 := Tryd.zeroValue3,
  t4 := Tryd.underlying4,
  a4 := Tryd.isAgg4,
  z4 := Tryd.sizeOf4,
  v4 := Tryd.zeroValue4,
  t22 := Tryd.underlying23,
  a22 := Tryd.isAgg23,
  z22 := Tryd.sizeOf23,
  v22 := Tryd.zeroValue23,
  t25 := Tryd.underlying100,
  a25 := Tryd.isAgg100,
  z25 := Tryd.sizeOf100,
  v25 := Tryd.zeroValue100 }

end Go.Proofs
