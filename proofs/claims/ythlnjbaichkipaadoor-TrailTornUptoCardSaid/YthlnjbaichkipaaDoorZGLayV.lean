-- by a program of this session
import Derived.Test.YthlnjbaichkipaaDoorZGRep
set_option linter.unusedVariables false
set_option linter.unusedSimpArgs false
namespace Go.Proofs
open Go.Shelf Go.RowKit
theorem Tryd.lays166x : Lays.n166 Tryd.prog Tryd.lays105_ren := {
  mixed := Tryd.lays105.mixed
  f166 := Tryd.lays105.f166
  f240 := Tryd.lays105.f240
  f276 := Tryd.lays105.f276
  t0 := Tryd.lays105.t0
  a0 := Tryd.lays105.a0
  z0 := Tryd.lays105.z0
  v0 := Tryd.lays105.v0
  t3 := Tryd.lays105.t3
  a3 := Tryd.lays105.a3
  z3 := Tryd.lays105.z3
  v3 := Tryd.lays105.v3
  t4 := Tryd.lays105.t4
  a4 := Tryd.lays105.a4
  z4 := Tryd.lays105.z4
  v4 := Tryd.lays105.v4
  t9 := Tryd.lays105.t9
  a9 := Tryd.lays105.a9
  z9 := Tryd.lays105.z9
  v9 := Tryd.lays105.v9
  t20 := Tryd.lays105.t20
  a20 := Tryd.lays105.a20
  z20 := Tryd.lays105.z20
  v20 := Tryd.lays105.v20
  t37 := Tryd.lays105.t37
  a37 := Tryd.lays105.a37
  z37 := Tryd.lays105.z37
  v37 := Tryd.lays105.v37
  t70 := Tryd.lays105.t70
  a70 := Tryd.lays105.a70
  z70 := Tryd.lays105.z70
  v70 := Tryd.lays105.v70
  t72 := Tryd.lays105.t72
  a72 := Tryd.lays105.a72
  z72 := Tryd.lays105.z72
  v72 := Tryd.lays105.v72
  t75 := Tryd.lays105.t75
  a75 := Tryd.lays105.a75
  z75 := Tryd.lays105.z75
  v75 := Tryd.lays105.v75
  t164 := Tryd.lays105.t164
  a164 := Tryd.lays105.a164
  z164 := Tryd.lays105.z164
  v164 := Tryd.lays105.v164 }
theorem Tryd.Builder_WriteString (B b : Nat) (bs : List Value) (s : ByteArray) (w : World) (h : Lib.IsBuilder 89 5 B b bs w) (hlen : bs.length + s.size ≤ 140737488355328) (hBw : B ≤ w.heap.size) :
    Calls Tryd.prog 44 #[.pointer (some ⟨b, 0, none⟩), .string s] w fun e w' => e = .returned (.tuple #[.int .i64 s.size, .nilIface]) ∧ (Lib.BuilderAt 89 5 B b (.pointer (some ⟨b, 0, none⟩)) (bs ++ Lib.strCells s) w' ∧ Below B w w') := Any.Builder_WriteString Tryd.lays166x Tryd.Builder_Extra_105 B b bs s w h hlen hBw
end Go.Proofs
