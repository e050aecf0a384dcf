-- by px.py, a program of this session, over the kit's printer: functions given by hand stand beside printed ones. Lean checks all of it.
import Derived.BigFrame
import Derived.Test.YthlnjbaichkipaaDoorZXR0
import Derived.Test.YthlnjbaichkipaaDoorZXR5
import Derived.Test.YthlnjbaichkipaaDoorZXR9
import Derived.Test.YthlnjbaichkipaaDoorZXR10
namespace Go.Proofs.YthlnjbaichkipaaDoor.XR
open Go.RowKit Go.Proofs.YthlnjbaichkipaaDoorW.PrintWords Go.Proofs.YthlnjbaichkipaaDoorW.PrintLast Go.Proofs.YthlnjbaichkipaaDoorW.PrintMore
attribute [local go_sem] max2_int min2_int max_two min_two max_three min_three max_four min_four   -- for this text's walks alone
set_option linter.unusedVariables false
set_option linter.unusedSimpArgs false

def bellmanlaw04_lives.f  : Option (Bool) := (trail_Blocks.f (⟨#[48, 49, 50, 51, 52, 53, 54, 55, 56, 57]⟩ : ByteArray)).bind fun bt122 => (if 60 ≤ 281474976710656 then ((trail_Blocks.f (strOfNums (List.replicate 60 0))).bind fun bt127 => ((block_Make.f 8).bind fun bt129 => ((trail_Append.f bt129.1 bt129.2.1 bt129.2.2.1 bt129.2.2.2.1 2 5 0 (⟨#[97, 98]⟩ : ByteArray)).bind fun bt139 => ((trail_Append.f bt139.1 bt139.2.1 bt139.2.2.1 bt139.2.2.2.1 2 5 bt139.2.2.2.2.1 (strOfNums (List.replicate 60 0))).bind fun bt152 => ((trail_Read.f bt152.1 bt152.2.1 bt152.2.2.1 bt152.2.2.2.1 2 5).bind fun bt162 => (if 150 ≤ 281474976710656 then ((trail_Append.f bt152.1 bt152.2.1 bt152.2.2.1 bt152.2.2.2.1 2 5 bt152.2.2.2.2.1 (strOfNums (List.replicate 150 0))).bind fun bt170 => ((trail_Wipe.f bt152.1 bt152.2.1 bt152.2.2.1 bt152.2.2.2.1 2 5).bind fun bt181 => ((trail_Read.f bt181.1 bt181.2.1 bt181.2.2.1 bt181.2.2.2.1 2 5).bind fun bt191 => ((trail_Read.f bt152.1 bt152.2.1 bt152.2.2.1 bt152.2.2.2.1 4 5).bind fun bt196 => (if bt122.1 = 1 then (if bt122.2 = 0 then (if bt127.1 = 2 then (if bt127.2 = 0 then (if bt129.2.2.2.2 = 0 then (if bt139.2.2.2.2.1 = 1 then (if bt139.2.2.2.2.2 = 0 then (if bt152.2.2.2.2.1 = 3 then (if bt152.2.2.2.2.2 = 0 then (if (bt162.1.length : Int) = 2 then (if 0 < (bt162.1.length : Int) then (if (rdOf ByteArray.empty bt162.1 0).toList = ([97, 98] : List UInt8) then (if bt162.2.1 = 3 then (if bt162.2.2 = 0 then (if bt170.2.2.2.2.2 = 8 then (if bt181.2.2.2.2 = 0 then (if (bt191.1.length : Int) = 0 then (if bt191.2.2 = 0 then (some (bt196.2.2 == 1)) else (none)) else (none)) else (none)) else (none)) else (none)) else (none)) else (none)) else (none)) else (none)) else (none)) else (none)) else (none)) else (none)) else (none)) else (none)) else (none)) else (none)) else (none)))))) else (none))))))) else (none))
def bellmanlaw04_lives.T5 : Bool × List (List Nat × List Nat) := (true, [([], []), ([], []), ([], []), ([2], [2]), ([0, 1, 3], [0, 1, 3]), ([4], [4]), ([5], [5]), ([5], [5]), ([5], [5]), ([6, 4, 0, 1, 2, 3, 4, 5, 6], [6]), ([7, 9, 0, 1, 2, 3, 4, 5, 6, 7, 9], [7]), ([8, 10, 0, 1, 2, 3, 4, 5, 6, 7, 8, 9, 10], [8])])
def bellmanlaw04_lives.B5 : List Nat := [0, 0, 0, 4, 15, 31, 63, 63, 63, 127, 767, 2047]
theorem bellmanlaw04_lives.tab5 : rtab .any (opsOf Tryd.f7 5) = bellmanlaw04_lives.T5 := by kernel_rfl
theorem bellmanlaw04_lives.bits5 : waitsOk bellmanlaw04_lives.T5.2 bellmanlaw04_lives.B5 = true := by kernel_rfl
def bellmanlaw04_lives.T7 : Bool × List (List Nat × List Nat) := (true, [([], []), ([], []), ([], []), ([2], [2]), ([0, 1, 3], [0, 1, 3]), ([4], [4]), ([5], [5]), ([5], [5]), ([5], [5]), ([], []), ([9, 6, 4, 0, 1, 2, 3, 4, 5, 6, 9], [6, 9]), ([7, 10, 0, 1, 2, 3, 4, 5, 6, 7, 9, 10], [7]), ([8, 11, 0, 1, 2, 3, 4, 5, 6, 7, 8, 9, 10, 11], [8])])
def bellmanlaw04_lives.B7 : List Nat := [0, 0, 0, 4, 15, 31, 63, 63, 63, 0, 639, 1791, 4095]
theorem bellmanlaw04_lives.tab7 : rtab .any (opsOf Tryd.f7 7) = bellmanlaw04_lives.T7 := by kernel_rfl
theorem bellmanlaw04_lives.bits7 : waitsOk bellmanlaw04_lives.T7.2 bellmanlaw04_lives.B7 = true := by kernel_rfl
set_option maxHeartbeats 8000000 in
set_option maxRecDepth 100000 in
theorem bellmanlaw04_lives.calls  (r : Bool) (w : World) (h : bellmanlaw04_lives.f  = some r) :
  Calls Tryd.prog 7 #[] w fun e w' => e = .returned (.bool r) ∧ Below w.heap.size w w' := by
 have hu25 := Tryd.underlying25
 have HB := Aside0.mk (Below.refl w.heap.size w)
 have H : ((trail_Blocks.f (⟨#[48, 49, 50, 51, 52, 53, 54, 55, 56, 57]⟩ : ByteArray)).bind fun bt122 => (if 60 ≤ 281474976710656 then ((trail_Blocks.f (strOfNums (List.replicate 60 0))).bind fun bt127 => ((block_Make.f 8).bind fun bt129 => ((trail_Append.f bt129.1 bt129.2.1 bt129.2.2.1 bt129.2.2.2.1 2 5 0 (⟨#[97, 98]⟩ : ByteArray)).bind fun bt139 => ((trail_Append.f bt139.1 bt139.2.1 bt139.2.2.1 bt139.2.2.2.1 2 5 bt139.2.2.2.2.1 (strOfNums (List.replicate 60 0))).bind fun bt152 => ((trail_Read.f bt152.1 bt152.2.1 bt152.2.2.1 bt152.2.2.2.1 2 5).bind fun bt162 => (if 150 ≤ 281474976710656 then ((trail_Append.f bt152.1 bt152.2.1 bt152.2.2.1 bt152.2.2.2.1 2 5 bt152.2.2.2.2.1 (strOfNums (List.replicate 150 0))).bind fun bt170 => ((trail_Wipe.f bt152.1 bt152.2.1 bt152.2.2.1 bt152.2.2.2.1 2 5).bind fun bt181 => ((trail_Read.f bt181.1 bt181.2.1 bt181.2.2.1 bt181.2.2.2.1 2 5).bind fun bt191 => ((trail_Read.f bt152.1 bt152.2.1 bt152.2.2.1 bt152.2.2.2.1 4 5).bind fun bt196 => (if bt122.1 = 1 then (if bt122.2 = 0 then (if bt127.1 = 2 then (if bt127.2 = 0 then (if bt129.2.2.2.2 = 0 then (if bt139.2.2.2.2.1 = 1 then (if bt139.2.2.2.2.2 = 0 then (if bt152.2.2.2.2.1 = 3 then (if bt152.2.2.2.2.2 = 0 then (if (bt162.1.length : Int) = 2 then (if 0 < (bt162.1.length : Int) then (if (rdOf ByteArray.empty bt162.1 0).toList = ([97, 98] : List UInt8) then (if bt162.2.1 = 3 then (if bt162.2.2 = 0 then (if bt170.2.2.2.2.2 = 8 then (if bt181.2.2.2.2 = 0 then (if (bt191.1.length : Int) = 0 then (if bt191.2.2 = 0 then (some (bt196.2.2 == 1)) else (none)) else (none)) else (none)) else (none)) else (none)) else (none)) else (none)) else (none)) else (none)) else (none)) else (none)) else (none)) else (none)) else (none)) else (none)) else (none)) else (none)) else (none)))))) else (none))))))) else (none))) = some r := h
 clear h
 replace H := Option.bind_eq_some_iff.mp H
 obtain ⟨⟨t122, t123⟩, A10, H⟩ := H
 replace H : (if 60 ≤ 281474976710656 then ((trail_Blocks.f (strOfNums (List.replicate 60 0))).bind fun bt127 => ((block_Make.f 8).bind fun bt129 => ((trail_Append.f bt129.1 bt129.2.1 bt129.2.2.1 bt129.2.2.2.1 2 5 0 (⟨#[97, 98]⟩ : ByteArray)).bind fun bt139 => ((trail_Append.f bt139.1 bt139.2.1 bt139.2.2.1 bt139.2.2.2.1 2 5 bt139.2.2.2.2.1 (strOfNums (List.replicate 60 0))).bind fun bt152 => ((trail_Read.f bt152.1 bt152.2.1 bt152.2.2.1 bt152.2.2.2.1 2 5).bind fun bt162 => (if 150 ≤ 281474976710656 then ((trail_Append.f bt152.1 bt152.2.1 bt152.2.2.1 bt152.2.2.2.1 2 5 bt152.2.2.2.2.1 (strOfNums (List.replicate 150 0))).bind fun bt170 => ((trail_Wipe.f bt152.1 bt152.2.1 bt152.2.2.1 bt152.2.2.2.1 2 5).bind fun bt181 => ((trail_Read.f bt181.1 bt181.2.1 bt181.2.2.1 bt181.2.2.2.1 2 5).bind fun bt191 => ((trail_Read.f bt152.1 bt152.2.1 bt152.2.2.1 bt152.2.2.2.1 4 5).bind fun bt196 => (if t122 = 1 then (if t123 = 0 then (if bt127.1 = 2 then (if bt127.2 = 0 then (if bt129.2.2.2.2 = 0 then (if bt139.2.2.2.2.1 = 1 then (if bt139.2.2.2.2.2 = 0 then (if bt152.2.2.2.2.1 = 3 then (if bt152.2.2.2.2.2 = 0 then (if (bt162.1.length : Int) = 2 then (if 0 < (bt162.1.length : Int) then (if (rdOf ByteArray.empty bt162.1 0).toList = ([97, 98] : List UInt8) then (if bt162.2.1 = 3 then (if bt162.2.2 = 0 then (if bt170.2.2.2.2.2 = 8 then (if bt181.2.2.2.2 = 0 then (if (bt191.1.length : Int) = 0 then (if bt191.2.2 = 0 then (some (bt196.2.2 == 1)) else (none)) else (none)) else (none)) else (none)) else (none)) else (none)) else (none)) else (none)) else (none)) else (none)) else (none)) else (none)) else (none)) else (none)) else (none)) else (none)) else (none)) else (none)))))) else (none))))))) else (none)) = some r := H
 have A1 := Aside0.mk A10
 clear A10
 by_cases c2 : 60 ≤ 281474976710656
 ·rw [if_pos c2] at H
  have c2b0 := eq_true c2
  have c2b1 : decide (60 ≤ 281474976710656) = true := decide_eq_true c2
  clear c2
  obtain ⟨y124, hy124⟩ : ∃ y_ : List Int, y_ = (List.replicate 60 0) := ⟨_, rfl⟩
  replace H : ((trail_Blocks.f (strOfNums y124)).bind fun bt127 => ((block_Make.f 8).bind fun bt129 => ((trail_Append.f bt129.1 bt129.2.1 bt129.2.2.1 bt129.2.2.2.1 2 5 0 (⟨#[97, 98]⟩ : ByteArray)).bind fun bt139 => ((trail_Append.f bt139.1 bt139.2.1 bt139.2.2.1 bt139.2.2.2.1 2 5 bt139.2.2.2.2.1 (strOfNums (List.replicate 60 0))).bind fun bt152 => ((trail_Read.f bt152.1 bt152.2.1 bt152.2.2.1 bt152.2.2.2.1 2 5).bind fun bt162 => (if 150 ≤ 281474976710656 then ((trail_Append.f bt152.1 bt152.2.1 bt152.2.2.1 bt152.2.2.2.1 2 5 bt152.2.2.2.2.1 (strOfNums (List.replicate 150 0))).bind fun bt170 => ((trail_Wipe.f bt152.1 bt152.2.1 bt152.2.2.1 bt152.2.2.2.1 2 5).bind fun bt181 => ((trail_Read.f bt181.1 bt181.2.1 bt181.2.2.1 bt181.2.2.2.1 2 5).bind fun bt191 => ((trail_Read.f bt152.1 bt152.2.1 bt152.2.2.1 bt152.2.2.2.1 4 5).bind fun bt196 => (if t122 = 1 then (if t123 = 0 then (if bt127.1 = 2 then (if bt127.2 = 0 then (if bt129.2.2.2.2 = 0 then (if bt139.2.2.2.2.1 = 1 then (if bt139.2.2.2.2.2 = 0 then (if bt152.2.2.2.2.1 = 3 then (if bt152.2.2.2.2.2 = 0 then (if (bt162.1.length : Int) = 2 then (if 0 < (bt162.1.length : Int) then (if (rdOf ByteArray.empty bt162.1 0).toList = ([97, 98] : List UInt8) then (if bt162.2.1 = 3 then (if bt162.2.2 = 0 then (if bt170.2.2.2.2.2 = 8 then (if bt181.2.2.2.2 = 0 then (if (bt191.1.length : Int) = 0 then (if bt191.2.2 = 0 then (some (bt196.2.2 == 1)) else (none)) else (none)) else (none)) else (none)) else (none)) else (none)) else (none)) else (none)) else (none)) else (none)) else (none)) else (none)) else (none)) else (none)) else (none)) else (none)) else (none)) else (none)))))) else (none))))))) = some r := by first | (rw [hy124]; with_reducible exact H) | (have H2_ := (Option.bind_some _ _).symm.trans H; rw [hy124]; with_reducible exact H2_) | (have H2_ := (Option.bind_some _ _).symm.trans H; with_reducible exact H2_) | with_reducible exact H | (rw [hy124]; exact H) | exact H
  have Ny124 := Aside0.mk hy124
  clear hy124
  replace H := Option.bind_eq_some_iff.mp H
  obtain ⟨⟨t127, t128⟩, A30, H⟩ := H
  replace H : ((block_Make.f 8).bind fun bt129 => ((trail_Append.f bt129.1 bt129.2.1 bt129.2.2.1 bt129.2.2.2.1 2 5 0 (⟨#[97, 98]⟩ : ByteArray)).bind fun bt139 => ((trail_Append.f bt139.1 bt139.2.1 bt139.2.2.1 bt139.2.2.2.1 2 5 bt139.2.2.2.2.1 (strOfNums (List.replicate 60 0))).bind fun bt152 => ((trail_Read.f bt152.1 bt152.2.1 bt152.2.2.1 bt152.2.2.2.1 2 5).bind fun bt162 => (if 150 ≤ 281474976710656 then ((trail_Append.f bt152.1 bt152.2.1 bt152.2.2.1 bt152.2.2.2.1 2 5 bt152.2.2.2.2.1 (strOfNums (List.replicate 150 0))).bind fun bt170 => ((trail_Wipe.f bt152.1 bt152.2.1 bt152.2.2.1 bt152.2.2.2.1 2 5).bind fun bt181 => ((trail_Read.f bt181.1 bt181.2.1 bt181.2.2.1 bt181.2.2.2.1 2 5).bind fun bt191 => ((trail_Read.f bt152.1 bt152.2.1 bt152.2.2.1 bt152.2.2.2.1 4 5).bind fun bt196 => (if t122 = 1 then (if t123 = 0 then (if t127 = 2 then (if t128 = 0 then (if bt129.2.2.2.2 = 0 then (if bt139.2.2.2.2.1 = 1 then (if bt139.2.2.2.2.2 = 0 then (if bt152.2.2.2.2.1 = 3 then (if bt152.2.2.2.2.2 = 0 then (if (bt162.1.length : Int) = 2 then (if 0 < (bt162.1.length : Int) then (if (rdOf ByteArray.empty bt162.1 0).toList = ([97, 98] : List UInt8) then (if bt162.2.1 = 3 then (if bt162.2.2 = 0 then (if bt170.2.2.2.2.2 = 8 then (if bt181.2.2.2.2 = 0 then (if (bt191.1.length : Int) = 0 then (if bt191.2.2 = 0 then (some (bt196.2.2 == 1)) else (none)) else (none)) else (none)) else (none)) else (none)) else (none)) else (none)) else (none)) else (none)) else (none)) else (none)) else (none)) else (none)) else (none)) else (none)) else (none)) else (none)) else (none)))))) else (none)))))) = some r := H
  have A3 := Aside0.mk A30
  clear A30
  replace H := Option.bind_eq_some_iff.mp H
  obtain ⟨⟨t129, t132, t135, t136, t137⟩, A40, H⟩ := H
  replace H : ((trail_Append.f t129 t132 t135 t136 2 5 0 (⟨#[97, 98]⟩ : ByteArray)).bind fun bt139 => ((trail_Append.f bt139.1 bt139.2.1 bt139.2.2.1 bt139.2.2.2.1 2 5 bt139.2.2.2.2.1 (strOfNums (List.replicate 60 0))).bind fun bt152 => ((trail_Read.f bt152.1 bt152.2.1 bt152.2.2.1 bt152.2.2.2.1 2 5).bind fun bt162 => (if 150 ≤ 281474976710656 then ((trail_Append.f bt152.1 bt152.2.1 bt152.2.2.1 bt152.2.2.2.1 2 5 bt152.2.2.2.2.1 (strOfNums (List.replicate 150 0))).bind fun bt170 => ((trail_Wipe.f bt152.1 bt152.2.1 bt152.2.2.1 bt152.2.2.2.1 2 5).bind fun bt181 => ((trail_Read.f bt181.1 bt181.2.1 bt181.2.2.1 bt181.2.2.2.1 2 5).bind fun bt191 => ((trail_Read.f bt152.1 bt152.2.1 bt152.2.2.1 bt152.2.2.2.1 4 5).bind fun bt196 => (if t122 = 1 then (if t123 = 0 then (if t127 = 2 then (if t128 = 0 then (if t137 = 0 then (if bt139.2.2.2.2.1 = 1 then (if bt139.2.2.2.2.2 = 0 then (if bt152.2.2.2.2.1 = 3 then (if bt152.2.2.2.2.2 = 0 then (if (bt162.1.length : Int) = 2 then (if 0 < (bt162.1.length : Int) then (if (rdOf ByteArray.empty bt162.1 0).toList = ([97, 98] : List UInt8) then (if bt162.2.1 = 3 then (if bt162.2.2 = 0 then (if bt170.2.2.2.2.2 = 8 then (if bt181.2.2.2.2 = 0 then (if (bt191.1.length : Int) = 0 then (if bt191.2.2 = 0 then (some (bt196.2.2 == 1)) else (none)) else (none)) else (none)) else (none)) else (none)) else (none)) else (none)) else (none)) else (none)) else (none)) else (none)) else (none)) else (none)) else (none)) else (none)) else (none)) else (none)) else (none)))))) else (none))))) = some r := H
  have A4 := Aside0.mk A40
  clear A40
  replace H := Option.bind_eq_some_iff.mp H
  obtain ⟨⟨t139, t142, t145, t146, t147, t148⟩, A50, H⟩ := H
  replace H : ((trail_Append.f t139 t142 t145 t146 2 5 t147 (strOfNums (List.replicate 60 0))).bind fun bt152 => ((trail_Read.f bt152.1 bt152.2.1 bt152.2.2.1 bt152.2.2.2.1 2 5).bind fun bt162 => (if 150 ≤ 281474976710656 then ((trail_Append.f bt152.1 bt152.2.1 bt152.2.2.1 bt152.2.2.2.1 2 5 bt152.2.2.2.2.1 (strOfNums (List.replicate 150 0))).bind fun bt170 => ((trail_Wipe.f bt152.1 bt152.2.1 bt152.2.2.1 bt152.2.2.2.1 2 5).bind fun bt181 => ((trail_Read.f bt181.1 bt181.2.1 bt181.2.2.1 bt181.2.2.2.1 2 5).bind fun bt191 => ((trail_Read.f bt152.1 bt152.2.1 bt152.2.2.1 bt152.2.2.2.1 4 5).bind fun bt196 => (if t122 = 1 then (if t123 = 0 then (if t127 = 2 then (if t128 = 0 then (if t137 = 0 then (if t147 = 1 then (if t148 = 0 then (if bt152.2.2.2.2.1 = 3 then (if bt152.2.2.2.2.2 = 0 then (if (bt162.1.length : Int) = 2 then (if 0 < (bt162.1.length : Int) then (if (rdOf ByteArray.empty bt162.1 0).toList = ([97, 98] : List UInt8) then (if bt162.2.1 = 3 then (if bt162.2.2 = 0 then (if bt170.2.2.2.2.2 = 8 then (if bt181.2.2.2.2 = 0 then (if (bt191.1.length : Int) = 0 then (if bt191.2.2 = 0 then (some (bt196.2.2 == 1)) else (none)) else (none)) else (none)) else (none)) else (none)) else (none)) else (none)) else (none)) else (none)) else (none)) else (none)) else (none)) else (none)) else (none)) else (none)) else (none)) else (none)) else (none)))))) else (none)))) = some r := H
  have A5 := Aside0.mk A50
  clear A50
  obtain ⟨y149, hy149⟩ : ∃ y_ : List Int, y_ = (List.replicate 60 0) := ⟨_, rfl⟩
  replace H : ((trail_Append.f t139 t142 t145 t146 2 5 t147 (strOfNums y149)).bind fun bt152 => ((trail_Read.f bt152.1 bt152.2.1 bt152.2.2.1 bt152.2.2.2.1 2 5).bind fun bt162 => (if 150 ≤ 281474976710656 then ((trail_Append.f bt152.1 bt152.2.1 bt152.2.2.1 bt152.2.2.2.1 2 5 bt152.2.2.2.2.1 (strOfNums (List.replicate 150 0))).bind fun bt170 => ((trail_Wipe.f bt152.1 bt152.2.1 bt152.2.2.1 bt152.2.2.2.1 2 5).bind fun bt181 => ((trail_Read.f bt181.1 bt181.2.1 bt181.2.2.1 bt181.2.2.2.1 2 5).bind fun bt191 => ((trail_Read.f bt152.1 bt152.2.1 bt152.2.2.1 bt152.2.2.2.1 4 5).bind fun bt196 => (if t122 = 1 then (if t123 = 0 then (if t127 = 2 then (if t128 = 0 then (if t137 = 0 then (if t147 = 1 then (if t148 = 0 then (if bt152.2.2.2.2.1 = 3 then (if bt152.2.2.2.2.2 = 0 then (if (bt162.1.length : Int) = 2 then (if 0 < (bt162.1.length : Int) then (if (rdOf ByteArray.empty bt162.1 0).toList = ([97, 98] : List UInt8) then (if bt162.2.1 = 3 then (if bt162.2.2 = 0 then (if bt170.2.2.2.2.2 = 8 then (if bt181.2.2.2.2 = 0 then (if (bt191.1.length : Int) = 0 then (if bt191.2.2 = 0 then (some (bt196.2.2 == 1)) else (none)) else (none)) else (none)) else (none)) else (none)) else (none)) else (none)) else (none)) else (none)) else (none)) else (none)) else (none)) else (none)) else (none)) else (none)) else (none)) else (none)) else (none)))))) else (none)))) = some r := by first | (rw [hy149]; with_reducible exact H) | (have H2_ := (Option.bind_some _ _).symm.trans H; rw [hy149]; with_reducible exact H2_) | (have H2_ := (Option.bind_some _ _).symm.trans H; with_reducible exact H2_) | with_reducible exact H | (rw [hy149]; exact H) | exact H
  have Ny149 := Aside0.mk hy149
  clear hy149
  replace H := Option.bind_eq_some_iff.mp H
  obtain ⟨⟨t152, t155, t158, t159, t160, t161⟩, A60, H⟩ := H
  replace H : ((trail_Read.f t152 t155 t158 t159 2 5).bind fun bt162 => (if 150 ≤ 281474976710656 then ((trail_Append.f t152 t155 t158 t159 2 5 t160 (strOfNums (List.replicate 150 0))).bind fun bt170 => ((trail_Wipe.f t152 t155 t158 t159 2 5).bind fun bt181 => ((trail_Read.f bt181.1 bt181.2.1 bt181.2.2.1 bt181.2.2.2.1 2 5).bind fun bt191 => ((trail_Read.f t152 t155 t158 t159 4 5).bind fun bt196 => (if t122 = 1 then (if t123 = 0 then (if t127 = 2 then (if t128 = 0 then (if t137 = 0 then (if t147 = 1 then (if t148 = 0 then (if t160 = 3 then (if t161 = 0 then (if (bt162.1.length : Int) = 2 then (if 0 < (bt162.1.length : Int) then (if (rdOf ByteArray.empty bt162.1 0).toList = ([97, 98] : List UInt8) then (if bt162.2.1 = 3 then (if bt162.2.2 = 0 then (if bt170.2.2.2.2.2 = 8 then (if bt181.2.2.2.2 = 0 then (if (bt191.1.length : Int) = 0 then (if bt191.2.2 = 0 then (some (bt196.2.2 == 1)) else (none)) else (none)) else (none)) else (none)) else (none)) else (none)) else (none)) else (none)) else (none)) else (none)) else (none)) else (none)) else (none)) else (none)) else (none)) else (none)) else (none)) else (none)))))) else (none))) = some r := H
  have A6 := Aside0.mk A60
  clear A60
  replace H := Option.bind_eq_some_iff.mp H
  obtain ⟨⟨t162, t165, t166⟩, A70, H⟩ := H
  replace H : (if 150 ≤ 281474976710656 then ((trail_Append.f t152 t155 t158 t159 2 5 t160 (strOfNums (List.replicate 150 0))).bind fun bt170 => ((trail_Wipe.f t152 t155 t158 t159 2 5).bind fun bt181 => ((trail_Read.f bt181.1 bt181.2.1 bt181.2.2.1 bt181.2.2.2.1 2 5).bind fun bt191 => ((trail_Read.f t152 t155 t158 t159 4 5).bind fun bt196 => (if t122 = 1 then (if t123 = 0 then (if t127 = 2 then (if t128 = 0 then (if t137 = 0 then (if t147 = 1 then (if t148 = 0 then (if t160 = 3 then (if t161 = 0 then (if (t162.length : Int) = 2 then (if 0 < (t162.length : Int) then (if (rdOf ByteArray.empty t162 0).toList = ([97, 98] : List UInt8) then (if t165 = 3 then (if t166 = 0 then (if bt170.2.2.2.2.2 = 8 then (if bt181.2.2.2.2 = 0 then (if (bt191.1.length : Int) = 0 then (if bt191.2.2 = 0 then (some (bt196.2.2 == 1)) else (none)) else (none)) else (none)) else (none)) else (none)) else (none)) else (none)) else (none)) else (none)) else (none)) else (none)) else (none)) else (none)) else (none)) else (none)) else (none)) else (none)) else (none)))))) else (none)) = some r := H
  have A7 := Aside0.mk A70
  clear A70
  by_cases c8 : 150 ≤ 281474976710656
  ·rw [if_pos c8] at H
   have c8b0 := eq_true c8
   have c8b1 : decide (150 ≤ 281474976710656) = true := decide_eq_true c8
   clear c8
   obtain ⟨y167, hy167⟩ : ∃ y_ : List Int, y_ = (List.replicate 150 0) := ⟨_, rfl⟩
   replace H : ((trail_Append.f t152 t155 t158 t159 2 5 t160 (strOfNums y167)).bind fun bt170 => ((trail_Wipe.f t152 t155 t158 t159 2 5).bind fun bt181 => ((trail_Read.f bt181.1 bt181.2.1 bt181.2.2.1 bt181.2.2.2.1 2 5).bind fun bt191 => ((trail_Read.f t152 t155 t158 t159 4 5).bind fun bt196 => (if t122 = 1 then (if t123 = 0 then (if t127 = 2 then (if t128 = 0 then (if t137 = 0 then (if t147 = 1 then (if t148 = 0 then (if t160 = 3 then (if t161 = 0 then (if (t162.length : Int) = 2 then (if 0 < (t162.length : Int) then (if (rdOf ByteArray.empty t162 0).toList = ([97, 98] : List UInt8) then (if t165 = 3 then (if t166 = 0 then (if bt170.2.2.2.2.2 = 8 then (if bt181.2.2.2.2 = 0 then (if (bt191.1.length : Int) = 0 then (if bt191.2.2 = 0 then (some (bt196.2.2 == 1)) else (none)) else (none)) else (none)) else (none)) else (none)) else (none)) else (none)) else (none)) else (none)) else (none)) else (none)) else (none)) else (none)) else (none)) else (none)) else (none)) else (none)) else (none)))))) = some r := by first | (rw [hy167]; with_reducible exact H) | (have H2_ := (Option.bind_some _ _).symm.trans H; rw [hy167]; with_reducible exact H2_) | (have H2_ := (Option.bind_some _ _).symm.trans H; with_reducible exact H2_) | with_reducible exact H | (rw [hy167]; exact H) | exact H
   have Ny167 := Aside0.mk hy167
   clear hy167
   replace H := Option.bind_eq_some_iff.mp H
   obtain ⟨⟨t170, t173, t176, t177, t178, t179⟩, A90, H⟩ := H
   replace H : ((trail_Wipe.f t152 t155 t158 t159 2 5).bind fun bt181 => ((trail_Read.f bt181.1 bt181.2.1 bt181.2.2.1 bt181.2.2.2.1 2 5).bind fun bt191 => ((trail_Read.f t152 t155 t158 t159 4 5).bind fun bt196 => (if t122 = 1 then (if t123 = 0 then (if t127 = 2 then (if t128 = 0 then (if t137 = 0 then (if t147 = 1 then (if t148 = 0 then (if t160 = 3 then (if t161 = 0 then (if (t162.length : Int) = 2 then (if 0 < (t162.length : Int) then (if (rdOf ByteArray.empty t162 0).toList = ([97, 98] : List UInt8) then (if t165 = 3 then (if t166 = 0 then (if t179 = 8 then (if bt181.2.2.2.2 = 0 then (if (bt191.1.length : Int) = 0 then (if bt191.2.2 = 0 then (some (bt196.2.2 == 1)) else (none)) else (none)) else (none)) else (none)) else (none)) else (none)) else (none)) else (none)) else (none)) else (none)) else (none)) else (none)) else (none)) else (none)) else (none)) else (none)) else (none)) else (none))))) = some r := H
   have A9 := Aside0.mk A90
   clear A90
   replace H := Option.bind_eq_some_iff.mp H
   obtain ⟨⟨t181, t184, t187, t188, t189⟩, A100, H⟩ := H
   replace H : ((trail_Read.f t181 t184 t187 t188 2 5).bind fun bt191 => ((trail_Read.f t152 t155 t158 t159 4 5).bind fun bt196 => (if t122 = 1 then (if t123 = 0 then (if t127 = 2 then (if t128 = 0 then (if t137 = 0 then (if t147 = 1 then (if t148 = 0 then (if t160 = 3 then (if t161 = 0 then (if (t162.length : Int) = 2 then (if 0 < (t162.length : Int) then (if (rdOf ByteArray.empty t162 0).toList = ([97, 98] : List UInt8) then (if t165 = 3 then (if t166 = 0 then (if t179 = 8 then (if t189 = 0 then (if (bt191.1.length : Int) = 0 then (if bt191.2.2 = 0 then (some (bt196.2.2 == 1)) else (none)) else (none)) else (none)) else (none)) else (none)) else (none)) else (none)) else (none)) else (none)) else (none)) else (none)) else (none)) else (none)) else (none)) else (none)) else (none)) else (none)) else (none)))) = some r := H
   have A10 := Aside0.mk A100
   clear A100
   replace H := Option.bind_eq_some_iff.mp H
   obtain ⟨⟨t191, t194, t195⟩, A110, H⟩ := H
   replace H : ((trail_Read.f t152 t155 t158 t159 4 5).bind fun bt196 => (if t122 = 1 then (if t123 = 0 then (if t127 = 2 then (if t128 = 0 then (if t137 = 0 then (if t147 = 1 then (if t148 = 0 then (if t160 = 3 then (if t161 = 0 then (if (t162.length : Int) = 2 then (if 0 < (t162.length : Int) then (if (rdOf ByteArray.empty t162 0).toList = ([97, 98] : List UInt8) then (if t165 = 3 then (if t166 = 0 then (if t179 = 8 then (if t189 = 0 then (if (t191.length : Int) = 0 then (if t195 = 0 then (some (bt196.2.2 == 1)) else (none)) else (none)) else (none)) else (none)) else (none)) else (none)) else (none)) else (none)) else (none)) else (none)) else (none)) else (none)) else (none)) else (none)) else (none)) else (none)) else (none)) else (none))) = some r := H
   have A11 := Aside0.mk A110
   clear A110
   replace H := Option.bind_eq_some_iff.mp H
   obtain ⟨⟨t196, t199, t200⟩, A120, H⟩ := H
   replace H : (if t122 = 1 then (if t123 = 0 then (if t127 = 2 then (if t128 = 0 then (if t137 = 0 then (if t147 = 1 then (if t148 = 0 then (if t160 = 3 then (if t161 = 0 then (if (t162.length : Int) = 2 then (if 0 < (t162.length : Int) then (if (rdOf ByteArray.empty t162 0).toList = ([97, 98] : List UInt8) then (if t165 = 3 then (if t166 = 0 then (if t179 = 8 then (if t189 = 0 then (if (t191.length : Int) = 0 then (if t195 = 0 then (some (t200 == 1)) else (none)) else (none)) else (none)) else (none)) else (none)) else (none)) else (none)) else (none)) else (none)) else (none)) else (none)) else (none)) else (none)) else (none)) else (none)) else (none)) else (none)) else (none)) = some r := H
   have A12 := Aside0.mk A120
   clear A120
   by_cases c13 : t122 = 1
   ·rw [if_pos c13] at H
    have c13b0 : (t122 == 1) = true := beq_iff_eq.mpr c13
    have c13b1 : (t122 != 1) = false := bne_eq_false_iff_eq.mpr c13
    clear c13
    by_cases c14 : t123 = 0
    ·rw [if_pos c14] at H
     have c14b0 : (t123 == 0) = true := beq_iff_eq.mpr c14
     have c14b1 : (t123 != 0) = false := bne_eq_false_iff_eq.mpr c14
     clear c14
     by_cases c15 : t127 = 2
     ·rw [if_pos c15] at H
      have c15b0 : (t127 == 2) = true := beq_iff_eq.mpr c15
      have c15b1 : (t127 != 2) = false := bne_eq_false_iff_eq.mpr c15
      clear c15
      by_cases c16 : t128 = 0
      ·rw [if_pos c16] at H
       have c16b0 : (t128 == 0) = true := beq_iff_eq.mpr c16
       have c16b1 : (t128 != 0) = false := bne_eq_false_iff_eq.mpr c16
       clear c16
       by_cases c17 : t137 = 0
       ·rw [if_pos c17] at H
        have c17b0 : (t137 == 0) = true := beq_iff_eq.mpr c17
        have c17b1 : (t137 != 0) = false := bne_eq_false_iff_eq.mpr c17
        clear c17
        by_cases c18 : t147 = 1
        ·rw [if_pos c18] at H
         have c18b0 : (t147 == 1) = true := beq_iff_eq.mpr c18
         have c18b1 : (t147 != 1) = false := bne_eq_false_iff_eq.mpr c18
         clear c18
         by_cases c19 : t148 = 0
         ·rw [if_pos c19] at H
          have c19b0 : (t148 == 0) = true := beq_iff_eq.mpr c19
          have c19b1 : (t148 != 0) = false := bne_eq_false_iff_eq.mpr c19
          clear c19
          by_cases c20 : t160 = 3
          ·rw [if_pos c20] at H
           have c20b0 : (t160 == 3) = true := beq_iff_eq.mpr c20
           have c20b1 : (t160 != 3) = false := bne_eq_false_iff_eq.mpr c20
           clear c20
           by_cases c21 : t161 = 0
           ·rw [if_pos c21] at H
            have c21b0 : (t161 == 0) = true := beq_iff_eq.mpr c21
            have c21b1 : (t161 != 0) = false := bne_eq_false_iff_eq.mpr c21
            clear c21
            by_cases c22 : (t162.length : Int) = 2
            ·rw [if_pos c22] at H
             have c22b0 : ((t162.length : Int) == 2) = true := beq_iff_eq.mpr c22
             have c22b1 : ((t162.length : Int) != 2) = false := bne_eq_false_iff_eq.mpr c22
             clear c22
             by_cases c23 : 0 < (t162.length : Int)
             ·rw [if_pos c23] at H
              have c23b0 : decide (0 < (t162.length : Int)) = true := decide_eq_true c23
              have c23b1 : decide (0 < t162.length) = true := decide_eq_true (by omega)
              clear c23
              by_cases c24 : (rdOf ByteArray.empty t162 0).toList = ([97, 98] : List UInt8)
              ·rw [if_pos c24] at H
               have c24b0 : ((rdOf ByteArray.empty t162 0).toList == ([97, 98] : List UInt8)) = true := beq_iff_eq.mpr c24
               have c24b1 : ((rdOf ByteArray.empty t162 0).toList != ([97, 98] : List UInt8)) = false := bne_eq_false_iff_eq.mpr c24
               clear c24
               by_cases c25 : t165 = 3
               ·rw [if_pos c25] at H
                have c25b0 : (t165 == 3) = true := beq_iff_eq.mpr c25
                have c25b1 : (t165 != 3) = false := bne_eq_false_iff_eq.mpr c25
                clear c25
                by_cases c26 : t166 = 0
                ·rw [if_pos c26] at H
                 have c26b0 : (t166 == 0) = true := beq_iff_eq.mpr c26
                 have c26b1 : (t166 != 0) = false := bne_eq_false_iff_eq.mpr c26
                 clear c26
                 by_cases c27 : t179 = 8
                 ·rw [if_pos c27] at H
                  have c27b0 : (t179 == 8) = true := beq_iff_eq.mpr c27
                  have c27b1 : (t179 != 8) = false := bne_eq_false_iff_eq.mpr c27
                  clear c27
                  by_cases c28 : t189 = 0
                  ·rw [if_pos c28] at H
                   have c28b0 : (t189 == 0) = true := beq_iff_eq.mpr c28
                   have c28b1 : (t189 != 0) = false := bne_eq_false_iff_eq.mpr c28
                   clear c28
                   by_cases c29 : (t191.length : Int) = 0
                   ·rw [if_pos c29] at H
                    have c29b0 : ((t191.length : Int) == 0) = true := beq_iff_eq.mpr c29
                    have c29b1 : ((t191.length : Int) != 0) = false := bne_eq_false_iff_eq.mpr c29
                    clear c29
                    by_cases c30 : t195 = 0
                    ·rw [if_pos c30] at H
                     have c30b0 : (t195 == 0) = true := beq_iff_eq.mpr c30
                     have c30b1 : (t195 != 0) = false := bne_eq_false_iff_eq.mpr c30
                     clear c30
                     obtain rfl := Option.some.inj H
                     go_enter Tryd.func7, Tryd.ntmps7
                     try go_wp2_with (first | ((with_reducible refine gate_callee (f := 19) rfl ?_); refine goesL_ (some 26) rfl rfl Tryd.func19 (by kernel_rfl) rfl #[.string (⟨#[48, 49, 50, 51, 52, 53, 54, 55, 56, 57]⟩ : ByteArray)] rfl (by (try simp only [List.map_toArray, List.map_cons, List.map_nil]); first | done | rfl | (simp only [List.length_drop, List.length_take]; rfl)) ?_; (with_reducible refine (trail_Blocks.calls (⟨#[48, 49, 50, 51, 52, 53, 54, 55, 56, 57]⟩ : ByteArray) t122 t123 _ A1.out).mono ?_); rintro e w31 ⟨rfl, hb⟩; refine ⟨_, rfl, ?_⟩; have n0_ := Aside0.mk (below_step (by repeat (first | (with_reducible first | exact HB.out | apply below_alloc | apply pw_below_drewN | apply below_drew1) | exact HB.out)) hb); clear HB; have HB := n0_; clear n0_; (try clear hb); (try clear hb2); (try clear hk); (try clear hi)) | ((with_reducible refine gate_dst (N := 30) rfl ?_); (try (refine gate_guard (by rfl) ?_; dsimp only)); refine Kd.R_make (Kd.int .u8) _ 5 rfl (N := 30) rfl 48 _ _ rfl 60 rfl rfl Tryd.underlying48 (.int .u8 0) 1 info5 rfl (by decide) (by omega) 0 (ok := fun _ => True) (okp := fun _ => True) rfl (fun _ hk => hk) trivial (by omega) (by omega) (Below.refl _ _) (Nat.le_refl _) ?_; intro v125 w32 ho33 hb hg_ hnew_; clear hg_ hnew_; (first | rw [← Ny124.out] at ho33 | (simp only [Int.reduceToNat] at ho33; rw [← Ny124.out] at ho33)); have n0_ := Aside0.mk (Kd.R_lower ho33 (below_size (by repeat (first | (with_reducible first | exact HB.out | apply below_alloc | apply pw_below_drewN | apply below_drew1) | exact HB.out)))); have n1_ := Aside0.mk (below_step (by repeat (first | (with_reducible first | exact HB.out | apply below_alloc | apply pw_below_drewN | apply below_drew1) | exact HB.out)) hb); clear HB; have HO126 := n0_; have HB := n1_; clear n0_ n1_; clear hb ho33; have hcv34 := own_string (P := Tryd.prog) Tryd.underlying48 Tryd.underlying5 Tryd.underlying9 (Kd.own_of_R HO126.out)) | ((with_reducible refine gate_callee (f := 19) rfl ?_); refine goesL_ (some 32) rfl rfl Tryd.func19 (by kernel_rfl) rfl #[.string (strOfNums y124)] rfl (by (try simp only [List.map_toArray, List.map_cons, List.map_nil]); first | done | rfl | (simp only [List.length_drop, List.length_take]; rfl)) ?_; (with_reducible refine (trail_Blocks.calls (strOfNums y124) t127 t128 _ A3.out).mono ?_); rintro e w35 ⟨rfl, hb⟩; refine ⟨_, rfl, ?_⟩; have n0_ := Aside0.mk (Kd.R_below (by (with_reducible repeat (first | apply Kd.R_alloc | apply Kd.R_drewN | apply Kd.R_drew)); exact HO126.out) hb); have n1_ := Aside0.mk (below_step (by repeat (first | (with_reducible first | exact HB.out | apply below_alloc | apply pw_below_drewN | apply below_drew1) | exact HB.out)) hb); clear HO126; clear HB; have HO126 := n0_; have HB := n1_; clear n0_ n1_; (try clear hb); (try clear hb2); (try clear hk); (try clear hi)) | ((with_reducible refine gate_callee (f := 14) rfl ?_); refine goesL_ (some 36) rfl rfl Tryd.func14 (by kernel_rfl) rfl #[.int .i64 8] rfl (by (try simp only [List.map_toArray, List.map_cons, List.map_nil]); first | done | rfl | (simp only [List.length_drop, List.length_take]; rfl)) ?_; (with_reducible refine (block_Make.calls 8 t129 t132 t135 t136 t137 _ A4.out).mono ?_); rintro e w36 ⟨v130, v133, rfl, ho0, ho1, hb⟩; refine ⟨_, rfl, ?_⟩; have n0_ := Aside0.mk (Kd.R_below (by (with_reducible repeat (first | apply Kd.R_alloc | apply Kd.R_drewN | apply Kd.R_drew)); exact HO126.out) hb); have n1_ := Aside0.mk (Kd.V_lower (Kd.V_mono (ok' := fun k_ => some k_ ≠ (v125 : Value).ownBlock) ho0 (fun k_ hk_ => (Kd.fresh' (Kd.R_lt (by (with_reducible repeat (first | apply Kd.R_alloc | apply Kd.R_drewN | apply Kd.R_drew)); exact HO126.out)) k_ hk_))) (below_size (by repeat (first | (with_reducible first | exact HB.out | apply below_alloc | apply pw_below_drewN | apply below_drew1) | exact HB.out)))); have n2_ := Aside0.mk (Kd.V_lower (Kd.V_mono (ok' := fun k_ => some k_ ≠ (v125 : Value).ownBlock) ho1 (fun k_ hk_ => (Kd.fresh' (Kd.R_lt (by (with_reducible repeat (first | apply Kd.R_alloc | apply Kd.R_drewN | apply Kd.R_drew)); exact HO126.out)) k_ hk_))) (below_size (by repeat (first | (with_reducible first | exact HB.out | apply below_alloc | apply pw_below_drewN | apply below_drew1) | exact HB.out)))); have n3_ := Aside0.mk (below_step (by repeat (first | (with_reducible first | exact HB.out | apply below_alloc | apply pw_below_drewN | apply below_drew1) | exact HB.out)) hb); clear HO126; clear HB; have HO126 := n0_; have HO131 := n1_; have HO134 := n2_; have HB := n3_; clear n0_ n1_ n2_ n3_; (try clear hb); (try clear hb2); (try clear hk); (try clear hi); (try clear ho0); (try clear ho1)) | ((with_reducible refine gate_dst (N := 5) rfl ?_); (try (refine gate_guard (by rfl) ?_; dsimp only)); refine box_event ?hg (N := 5) ?hd (cs := #[.slice none 0 0, .slice none 0 0, .int .i64 0, .bool false]) (t := 25) ?hr ?_; (case hd => rfl); (case hg => rfl); (case hr => first | (go_simp; done) | (go_simp; rfl)); intro gb138 hg w37 hbox hb; have n0_ := Aside0.mk (Kd.R_below (by (with_reducible repeat (first | apply Kd.R_alloc | apply Kd.R_drewN | apply Kd.R_drew)); exact HO126.out) hb); have n1_ := Aside0.mk (Kd.V_below (Kd.V_elderB (by (with_reducible repeat (first | apply Kd.V_alloc | apply Kd.V_drewN | apply Kd.V_drew)); exact HO131.out) gb138 (Nat.le_of_eq hg.symm)) hb); have n2_ := Aside0.mk (Kd.V_below (Kd.V_elderB (by (with_reducible repeat (first | apply Kd.V_alloc | apply Kd.V_drewN | apply Kd.V_drew)); exact HO134.out) gb138 (Nat.le_of_eq hg.symm)) hb); have n3_ := Aside0.mk (below_step (by repeat (first | (with_reducible first | exact HB.out | apply below_alloc | apply pw_below_drewN | apply below_drew1) | exact HB.out)) hb); have n4_ := Aside0.mk (hbox); have n5_ := Aside0.mk ((by rw [hg]; exact (below_size (by repeat (first | (with_reducible first | exact HB.out | apply below_alloc | apply pw_below_drewN | apply below_drew1) | exact HB.out))) : w.heap.size ≤ gb138)); have n6_ := Aside0.mk ((by rw [hg]; exact (below_size (by repeat (first | (with_reducible first | exact HB.out | apply below_alloc | apply pw_below_drewN | apply below_drew1) | exact HB.out))) : w.heap.size ≤ gb138)); clear HO126; clear HO131; clear HO134; clear HB; have HO126 := n0_; have HO131 := n1_; have HO134 := n2_; have HB := n3_; have BK138 := n4_; have GW138 := n5_; have GE138 := n6_; clear n0_ n1_ n2_ n3_ n4_ n5_ n6_; clear hb hbox hg; obtain ⟨Ao38, co38, eo38⟩ := Kd.V_slice HO131.out; subst eo38; have hcz39_0 : w37.cell? ⟨gb138, 0, none⟩ = some (.slice none 0 0) := (blk_cell BK138.out 0).trans rfl; have hcz39_1 : w37.cell? ⟨gb138, 1, none⟩ = some (.slice none 0 0) := (blk_cell BK138.out 1).trans rfl; have hcz39_2 : w37.cell? ⟨gb138, 2, none⟩ = some (.int .i64 0) := (blk_cell BK138.out 2).trans rfl; have hcz39_3 : w37.cell? ⟨gb138, 3, none⟩ = some (.bool false) := (blk_cell BK138.out 3).trans rfl; have hfz39_0 := blk_frozen BK138.out 0; have hfz39_1 := blk_frozen BK138.out 1; have hfz39_2 := blk_frozen BK138.out 2; have hfz39_3 := blk_frozen BK138.out 3; obtain ⟨Ao40, co40, eo40⟩ := Kd.V_slice HO134.out; subst eo40) | ((with_reducible refine gate_callee (f := 11) rfl ?_); refine goesL_ (some 41) rfl rfl Tryd.func11 (by kernel_rfl) rfl #[.agg #[.slice Ao38 t129.length co38, .slice Ao40 t132.length co40, .int .i64 t135, .bool t136], .int .i64 2, .int .i64 5, .int .i64 0, .string (⟨#[97, 98]⟩ : ByteArray)] rfl (by (try simp only [List.map_toArray, List.map_cons, List.map_nil]); first | done | rfl | (simp only [List.length_drop, List.length_take]; rfl)) ?_; (with_reducible refine (trail_Append.calls _ _ t129 _ _ t132 t135 t136 2 5 0 (⟨#[97, 98]⟩ : ByteArray) t139 t142 t145 t146 t147 t148 _ ?side1 ?side2 ?side3 ?side4 A5.out).mono ?_); (case side1 => refine (Kd.V_reads' (e := 9) (base := w.heap.size) (ok := fun k_ => (some k_ ≠ (v125 : Value).ownBlock ∧ k_ ≠ gb138)) (n := t129.length) (c := co38) ?_).2.2; exact (by (with_reducible repeat (first | apply Kd.V_alloc | apply Kd.V_drewN | apply Kd.V_drew)); exact (Kd.V_mono (Kd.V_far (p := ⟨gb138, 3, none⟩) (Kd.V_far (p := ⟨gb138, 2, none⟩) (Kd.V_far (p := ⟨gb138, 1, none⟩) (Kd.V_far (p := ⟨gb138, 0, none⟩) (Kd.V_mono HO131.out (fun k_ hk => (⟨hk, hk.2⟩ : _ ∧ k_ ≠ gb138))) (fun _ hk => hk.2) (.slice Ao38 t129.length co38)) (fun _ hk => hk.2) (.slice Ao40 t132.length co40)) (fun _ hk => hk.2) (.int .i64 t135)) (fun _ hk => hk.2) (.bool t136)) (fun _ h_ => h_.1)))); (case side2 => exact (Kd.V_reads' HO131.out).2.1); (case side3 => refine (Kd.V_reads' (e := 60) (base := w.heap.size) (ok := fun k_ => (some k_ ≠ (v125 : Value).ownBlock ∧ k_ ≠ gb138)) (n := t132.length) (c := co40) ?_).2.2; exact (by (with_reducible repeat (first | apply Kd.V_alloc | apply Kd.V_drewN | apply Kd.V_drew)); exact (Kd.V_mono (Kd.V_far (p := ⟨gb138, 3, none⟩) (Kd.V_far (p := ⟨gb138, 2, none⟩) (Kd.V_far (p := ⟨gb138, 1, none⟩) (Kd.V_far (p := ⟨gb138, 0, none⟩) (Kd.V_mono HO134.out (fun k_ hk => (⟨hk, hk.2⟩ : _ ∧ k_ ≠ gb138))) (fun _ hk => hk.2) (.slice Ao38 t129.length co38)) (fun _ hk => hk.2) (.slice Ao40 t132.length co40)) (fun _ hk => hk.2) (.int .i64 t135)) (fun _ hk => hk.2) (.bool t136)) (fun _ h_ => h_.1)))); (case side4 => exact (Kd.V_reads' HO134.out).2.1); rintro e w41 ⟨v140, v143, rfl, ho0, ho1, hb⟩; refine ⟨_, rfl, ?_⟩; have n0_ := Aside0.mk (Kd.R_below (by (with_reducible repeat (first | apply Kd.R_alloc | apply Kd.R_drewN | apply Kd.R_drew)); exact (Kd.R_mono (Kd.R_far (p := ⟨gb138, 3, none⟩) (Kd.R_far (p := ⟨gb138, 2, none⟩) (Kd.R_far (p := ⟨gb138, 1, none⟩) (Kd.R_far (p := ⟨gb138, 0, none⟩) (Kd.R_types HO126.out BK138.out (by decide)) (fun _ hk => hk.2) (.slice Ao38 t129.length co38)) (fun _ hk => hk.2) (.slice Ao40 t132.length co40)) (fun _ hk => hk.2) (.int .i64 t135)) (fun _ hk => hk.2) (.bool t136)) (fun _ h_ => h_.1))) hb); have n1_ := Aside0.mk (Kd.V_below (by (with_reducible repeat (first | apply Kd.V_alloc | apply Kd.V_drewN | apply Kd.V_drew)); exact (Kd.V_mono (Kd.V_far (p := ⟨gb138, 3, none⟩) (Kd.V_far (p := ⟨gb138, 2, none⟩) (Kd.V_far (p := ⟨gb138, 1, none⟩) (Kd.V_far (p := ⟨gb138, 0, none⟩) (Kd.V_mono HO131.out (fun k_ hk => (⟨hk, hk.2⟩ : _ ∧ k_ ≠ gb138))) (fun _ hk => hk.2) (.slice Ao38 t129.length co38)) (fun _ hk => hk.2) (.slice Ao40 t132.length co40)) (fun _ hk => hk.2) (.int .i64 t135)) (fun _ hk => hk.2) (.bool t136)) (fun _ h_ => h_.1))) hb); have n2_ := Aside0.mk (Kd.V_below (by (with_reducible repeat (first | apply Kd.V_alloc | apply Kd.V_drewN | apply Kd.V_drew)); exact (Kd.V_mono (Kd.V_far (p := ⟨gb138, 3, none⟩) (Kd.V_far (p := ⟨gb138, 2, none⟩) (Kd.V_far (p := ⟨gb138, 1, none⟩) (Kd.V_far (p := ⟨gb138, 0, none⟩) (Kd.V_mono HO134.out (fun k_ hk => (⟨hk, hk.2⟩ : _ ∧ k_ ≠ gb138))) (fun _ hk => hk.2) (.slice Ao38 t129.length co38)) (fun _ hk => hk.2) (.slice Ao40 t132.length co40)) (fun _ hk => hk.2) (.int .i64 t135)) (fun _ hk => hk.2) (.bool t136)) (fun _ h_ => h_.1))) hb); have n3_ := Aside0.mk (Kd.V_lower (Kd.V_mono (ok' := fun k_ => some k_ ≠ (v125 : Value).ownBlock ∧ k_ ≠ gb138) ho0 (fun k_ hk_ => ⟨(Kd.fresh' (Kd.R_lt (by (with_reducible repeat (first | apply Kd.R_alloc | apply Kd.R_drewN | apply Kd.R_drew)); exact (Kd.R_mono (Kd.R_far (p := ⟨gb138, 3, none⟩) (Kd.R_far (p := ⟨gb138, 2, none⟩) (Kd.R_far (p := ⟨gb138, 1, none⟩) (Kd.R_far (p := ⟨gb138, 0, none⟩) (Kd.R_types HO126.out BK138.out (by decide)) (fun _ hk => hk.2) (.slice Ao38 t129.length co38)) (fun _ hk => hk.2) (.slice Ao40 t132.length co40)) (fun _ hk => hk.2) (.int .i64 t135)) (fun _ hk => hk.2) (.bool t136)) (fun _ h_ => h_.1)))) k_ hk_), (Kd.freshB (g := gb138) (o := .cells #[.slice Ao38 t129.length co38, .slice Ao40 t132.length co40, .int .i64 t135, .bool t136] 25 (0, 0)) (by (with_reducible repeat (first | refine blk_drewN ?_ _ | refine blk_drew ?_ | refine blk_alloc ?_ _)); refine blk_put (cs := #[.slice Ao38 t129.length co38, .slice Ao40 t132.length co40, .int .i64 t135, .bool false]) ?_ 3 _ rfl; (with_reducible repeat (first | refine blk_drewN ?_ _ | refine blk_drew ?_ | refine blk_alloc ?_ _)); refine blk_put (cs := #[.slice Ao38 t129.length co38, .slice Ao40 t132.length co40, .int .i64 0, .bool false]) ?_ 2 _ rfl; (with_reducible repeat (first | refine blk_drewN ?_ _ | refine blk_drew ?_ | refine blk_alloc ?_ _)); refine blk_put (cs := #[.slice Ao38 t129.length co38, .slice none 0 0, .int .i64 0, .bool false]) ?_ 1 _ rfl; (with_reducible repeat (first | refine blk_drewN ?_ _ | refine blk_drew ?_ | refine blk_alloc ?_ _)); refine blk_put (cs := #[.slice none 0 0, .slice none 0 0, .int .i64 0, .bool false]) ?_ 0 _ rfl; (with_reducible repeat (first | refine blk_drewN ?_ _ | refine blk_drew ?_ | refine blk_alloc ?_ _)); exact BK138.out) k_ hk_)⟩)) (below_size (by repeat (first | (with_reducible first | exact HB.out | apply below_alloc | apply pw_below_drewN | apply below_drew1 | refine below_set ?_ GE138.out) | exact HB.out)))); have n4_ := Aside0.mk (Kd.V_lower (Kd.V_mono (ok' := fun k_ => some k_ ≠ (v125 : Value).ownBlock ∧ k_ ≠ gb138) ho1 (fun k_ hk_ => ⟨(Kd.fresh' (Kd.R_lt (by (with_reducible repeat (first | apply Kd.R_alloc | apply Kd.R_drewN | apply Kd.R_drew)); exact (Kd.R_mono (Kd.R_far (p := ⟨gb138, 3, none⟩) (Kd.R_far (p := ⟨gb138, 2, none⟩) (Kd.R_far (p := ⟨gb138, 1, none⟩) (Kd.R_far (p := ⟨gb138, 0, none⟩) (Kd.R_types HO126.out BK138.out (by decide)) (fun _ hk => hk.2) (.slice Ao38 t129.length co38)) (fun _ hk => hk.2) (.slice Ao40 t132.length co40)) (fun _ hk => hk.2) (.int .i64 t135)) (fun _ hk => hk.2) (.bool t136)) (fun _ h_ => h_.1)))) k_ hk_), (Kd.freshB (g := gb138) (o := .cells #[.slice Ao38 t129.length co38, .slice Ao40 t132.length co40, .int .i64 t135, .bool t136] 25 (0, 0)) (by (with_reducible repeat (first | refine blk_drewN ?_ _ | refine blk_drew ?_ | refine blk_alloc ?_ _)); refine blk_put (cs := #[.slice Ao38 t129.length co38, .slice Ao40 t132.length co40, .int .i64 t135, .bool false]) ?_ 3 _ rfl; (with_reducible repeat (first | refine blk_drewN ?_ _ | refine blk_drew ?_ | refine blk_alloc ?_ _)); refine blk_put (cs := #[.slice Ao38 t129.length co38, .slice Ao40 t132.length co40, .int .i64 0, .bool false]) ?_ 2 _ rfl; (with_reducible repeat (first | refine blk_drewN ?_ _ | refine blk_drew ?_ | refine blk_alloc ?_ _)); refine blk_put (cs := #[.slice Ao38 t129.length co38, .slice none 0 0, .int .i64 0, .bool false]) ?_ 1 _ rfl; (with_reducible repeat (first | refine blk_drewN ?_ _ | refine blk_drew ?_ | refine blk_alloc ?_ _)); refine blk_put (cs := #[.slice none 0 0, .slice none 0 0, .int .i64 0, .bool false]) ?_ 0 _ rfl; (with_reducible repeat (first | refine blk_drewN ?_ _ | refine blk_drew ?_ | refine blk_alloc ?_ _)); exact BK138.out) k_ hk_)⟩)) (below_size (by repeat (first | (with_reducible first | exact HB.out | apply below_alloc | apply pw_below_drewN | apply below_drew1 | refine below_set ?_ GE138.out) | exact HB.out)))); have n5_ := Aside0.mk (blk_below (g := gb138) (o := .cells #[.slice Ao38 t129.length co38, .slice Ao40 t132.length co40, .int .i64 t135, .bool t136] 25 (0, 0)) (by (with_reducible repeat (first | refine blk_drewN ?_ _ | refine blk_drew ?_ | refine blk_alloc ?_ _)); refine blk_put (cs := #[.slice Ao38 t129.length co38, .slice Ao40 t132.length co40, .int .i64 t135, .bool false]) ?_ 3 _ rfl; (with_reducible repeat (first | refine blk_drewN ?_ _ | refine blk_drew ?_ | refine blk_alloc ?_ _)); refine blk_put (cs := #[.slice Ao38 t129.length co38, .slice Ao40 t132.length co40, .int .i64 0, .bool false]) ?_ 2 _ rfl; (with_reducible repeat (first | refine blk_drewN ?_ _ | refine blk_drew ?_ | refine blk_alloc ?_ _)); refine blk_put (cs := #[.slice Ao38 t129.length co38, .slice none 0 0, .int .i64 0, .bool false]) ?_ 1 _ rfl; (with_reducible repeat (first | refine blk_drewN ?_ _ | refine blk_drew ?_ | refine blk_alloc ?_ _)); refine blk_put (cs := #[.slice none 0 0, .slice none 0 0, .int .i64 0, .bool false]) ?_ 0 _ rfl; (with_reducible repeat (first | refine blk_drewN ?_ _ | refine blk_drew ?_ | refine blk_alloc ?_ _)); exact BK138.out) hb); have n6_ := Aside0.mk (below_step (by repeat (first | (with_reducible first | exact HB.out | apply below_alloc | apply pw_below_drewN | apply below_drew1 | refine below_set ?_ GE138.out) | exact HB.out)) hb); clear HO126; clear HO131; clear HO134; clear BK138; clear HB; have HO126 := n0_; have HO131 := n1_; have HO134 := n2_; have HO141 := n3_; have HO144 := n4_; have BK138 := n5_; have HB := n6_; clear n0_ n1_ n2_ n3_ n4_ n5_ n6_; (try clear hb); (try clear hb2); (try clear hk); (try clear hi); (try clear ho0); (try clear ho1); obtain ⟨Ao42, co42, eo42⟩ := Kd.V_slice HO141.out; subst eo42; have hcz43_0 : w41.cell? ⟨gb138, 0, none⟩ = some (.slice Ao38 t129.length co38) := (blk_cell BK138.out 0).trans rfl; have hcz43_1 : w41.cell? ⟨gb138, 1, none⟩ = some (.slice Ao40 t132.length co40) := (blk_cell BK138.out 1).trans rfl; have hcz43_2 : w41.cell? ⟨gb138, 2, none⟩ = some (.int .i64 t135) := (blk_cell BK138.out 2).trans rfl; have hcz43_3 : w41.cell? ⟨gb138, 3, none⟩ = some (.bool t136) := (blk_cell BK138.out 3).trans rfl; have hfz43_0 := blk_frozen BK138.out 0; have hfz43_1 := blk_frozen BK138.out 1; have hfz43_2 := blk_frozen BK138.out 2; have hfz43_3 := blk_frozen BK138.out 3; obtain ⟨Ao44, co44, eo44⟩ := Kd.V_slice HO144.out; subst eo44))
                     have n0_ : Aside0 (Kd.R (Kd.int .u8) 5 ((((w41.setCell ⟨gb138, 0, none⟩ (.slice Ao42 t139.length co42)).setCell ⟨gb138, 1, none⟩ (.slice Ao44 t142.length co44)).setCell ⟨gb138, 2, none⟩ (.int .i64 t145)).setCell ⟨gb138, 3, none⟩ (.bool t146)) w.heap.size (fun _ => True) v125 y124) := ⟨by (with_reducible repeat (first | apply Kd.R_alloc | apply Kd.R_drewN | apply Kd.R_drew)); exact Kd.R_mono (Kd.R_far (p := ⟨gb138, 3, none⟩) (Kd.R_far (p := ⟨gb138, 2, none⟩) (Kd.R_far (p := ⟨gb138, 1, none⟩) (Kd.R_far (p := ⟨gb138, 0, none⟩) (Kd.R_types HO126.out BK138.out (by decide)) (fun _ hk => hk.2) (.slice Ao42 t139.length co42)) (fun _ hk => hk.2) (.slice Ao44 t142.length co44)) (fun _ hk => hk.2) (.int .i64 t145)) (fun _ hk => hk.2) (.bool t146)) (fun _ hk => trivial)⟩
                     have n1_ : Aside0 (Kd.V Kd.string 9 ((((w41.setCell ⟨gb138, 0, none⟩ (.slice Ao42 t139.length co42)).setCell ⟨gb138, 1, none⟩ (.slice Ao44 t142.length co44)).setCell ⟨gb138, 2, none⟩ (.int .i64 t145)).setCell ⟨gb138, 3, none⟩ (.bool t146)) w.heap.size (fun k_ => some k_ ≠ (v125 : Value).ownBlock ∧ k_ ≠ gb138) (.slice Ao38 t129.length co38) t129) := ⟨by (with_reducible repeat (first | apply Kd.V_alloc | apply Kd.V_drewN | apply Kd.V_drew)); exact Kd.V_mono (Kd.V_far (p := ⟨gb138, 3, none⟩) (Kd.V_far (p := ⟨gb138, 2, none⟩) (Kd.V_far (p := ⟨gb138, 1, none⟩) (Kd.V_far (p := ⟨gb138, 0, none⟩) (Kd.V_mono HO131.out (fun k_ hk => (⟨hk, hk.2⟩ : _ ∧ k_ ≠ gb138))) (fun _ hk => hk.2) (.slice Ao42 t139.length co42)) (fun _ hk => hk.2) (.slice Ao44 t142.length co44)) (fun _ hk => hk.2) (.int .i64 t145)) (fun _ hk => hk.2) (.bool t146)) (fun _ hk => ⟨hk.1.1, hk.1.2⟩)⟩
                     have n2_ : Aside0 (Kd.V k60 60 ((((w41.setCell ⟨gb138, 0, none⟩ (.slice Ao42 t139.length co42)).setCell ⟨gb138, 1, none⟩ (.slice Ao44 t142.length co44)).setCell ⟨gb138, 2, none⟩ (.int .i64 t145)).setCell ⟨gb138, 3, none⟩ (.bool t146)) w.heap.size (fun k_ => some k_ ≠ (v125 : Value).ownBlock ∧ k_ ≠ gb138) (.slice Ao40 t132.length co40) t132) := ⟨by (with_reducible repeat (first | apply Kd.V_alloc | apply Kd.V_drewN | apply Kd.V_drew)); exact Kd.V_mono (Kd.V_far (p := ⟨gb138, 3, none⟩) (Kd.V_far (p := ⟨gb138, 2, none⟩) (Kd.V_far (p := ⟨gb138, 1, none⟩) (Kd.V_far (p := ⟨gb138, 0, none⟩) (Kd.V_mono HO134.out (fun k_ hk => (⟨hk, hk.2⟩ : _ ∧ k_ ≠ gb138))) (fun _ hk => hk.2) (.slice Ao42 t139.length co42)) (fun _ hk => hk.2) (.slice Ao44 t142.length co44)) (fun _ hk => hk.2) (.int .i64 t145)) (fun _ hk => hk.2) (.bool t146)) (fun _ hk => ⟨hk.1.1, hk.1.2⟩)⟩
                     have n3_ : Aside0 (Kd.V Kd.string 9 ((((w41.setCell ⟨gb138, 0, none⟩ (.slice Ao42 t139.length co42)).setCell ⟨gb138, 1, none⟩ (.slice Ao44 t142.length co44)).setCell ⟨gb138, 2, none⟩ (.int .i64 t145)).setCell ⟨gb138, 3, none⟩ (.bool t146)) w.heap.size (fun k_ => some k_ ≠ (v125 : Value).ownBlock ∧ k_ ≠ gb138) (.slice Ao42 t139.length co42) t139) := ⟨by (with_reducible repeat (first | apply Kd.V_alloc | apply Kd.V_drewN | apply Kd.V_drew)); exact Kd.V_mono (Kd.V_far (p := ⟨gb138, 3, none⟩) (Kd.V_far (p := ⟨gb138, 2, none⟩) (Kd.V_far (p := ⟨gb138, 1, none⟩) (Kd.V_far (p := ⟨gb138, 0, none⟩) (Kd.V_mono HO141.out (fun k_ hk => (⟨hk, hk.2⟩ : _ ∧ k_ ≠ gb138))) (fun _ hk => hk.2) (.slice Ao42 t139.length co42)) (fun _ hk => hk.2) (.slice Ao44 t142.length co44)) (fun _ hk => hk.2) (.int .i64 t145)) (fun _ hk => hk.2) (.bool t146)) (fun _ hk => ⟨hk.1.1, hk.1.2⟩)⟩
                     have n4_ : Aside0 (Kd.V k60 60 ((((w41.setCell ⟨gb138, 0, none⟩ (.slice Ao42 t139.length co42)).setCell ⟨gb138, 1, none⟩ (.slice Ao44 t142.length co44)).setCell ⟨gb138, 2, none⟩ (.int .i64 t145)).setCell ⟨gb138, 3, none⟩ (.bool t146)) w.heap.size (fun k_ => some k_ ≠ (v125 : Value).ownBlock ∧ k_ ≠ gb138) (.slice Ao44 t142.length co44) t142) := ⟨by (with_reducible repeat (first | apply Kd.V_alloc | apply Kd.V_drewN | apply Kd.V_drew)); exact Kd.V_mono (Kd.V_far (p := ⟨gb138, 3, none⟩) (Kd.V_far (p := ⟨gb138, 2, none⟩) (Kd.V_far (p := ⟨gb138, 1, none⟩) (Kd.V_far (p := ⟨gb138, 0, none⟩) (Kd.V_mono HO144.out (fun k_ hk => (⟨hk, hk.2⟩ : _ ∧ k_ ≠ gb138))) (fun _ hk => hk.2) (.slice Ao42 t139.length co42)) (fun _ hk => hk.2) (.slice Ao44 t142.length co44)) (fun _ hk => hk.2) (.int .i64 t145)) (fun _ hk => hk.2) (.bool t146)) (fun _ hk => ⟨hk.1.1, hk.1.2⟩)⟩
                     have n5_ : Aside0 (((((w41.setCell ⟨gb138, 0, none⟩ (.slice Ao42 t139.length co42)).setCell ⟨gb138, 1, none⟩ (.slice Ao44 t142.length co44)).setCell ⟨gb138, 2, none⟩ (.int .i64 t145)).setCell ⟨gb138, 3, none⟩ (.bool t146)).heap[gb138]? = some (.cells #[.slice Ao42 t139.length co42, .slice Ao44 t142.length co44, .int .i64 t145, .bool t146] 25 (0, 0))) := ⟨by (with_reducible repeat (first | refine blk_drewN ?_ _ | refine blk_drew ?_ | refine blk_alloc ?_ _)); refine blk_put (cs := #[.slice Ao42 t139.length co42, .slice Ao44 t142.length co44, .int .i64 t145, .bool t136]) ?_ 3 _ rfl; (with_reducible repeat (first | refine blk_drewN ?_ _ | refine blk_drew ?_ | refine blk_alloc ?_ _)); refine blk_put (cs := #[.slice Ao42 t139.length co42, .slice Ao44 t142.length co44, .int .i64 t135, .bool t136]) ?_ 2 _ rfl; (with_reducible repeat (first | refine blk_drewN ?_ _ | refine blk_drew ?_ | refine blk_alloc ?_ _)); refine blk_put (cs := #[.slice Ao42 t139.length co42, .slice Ao40 t132.length co40, .int .i64 t135, .bool t136]) ?_ 1 _ rfl; (with_reducible repeat (first | refine blk_drewN ?_ _ | refine blk_drew ?_ | refine blk_alloc ?_ _)); refine blk_put (cs := #[.slice Ao38 t129.length co38, .slice Ao40 t132.length co40, .int .i64 t135, .bool t136]) ?_ 0 _ rfl; (with_reducible repeat (first | refine blk_drewN ?_ _ | refine blk_drew ?_ | refine blk_alloc ?_ _)); exact BK138.out⟩
                     have n6_ : Aside0 (Below w.heap.size w ((((w41.setCell ⟨gb138, 0, none⟩ (.slice Ao42 t139.length co42)).setCell ⟨gb138, 1, none⟩ (.slice Ao44 t142.length co44)).setCell ⟨gb138, 2, none⟩ (.int .i64 t145)).setCell ⟨gb138, 3, none⟩ (.bool t146))) := ⟨by repeat (first | (with_reducible first | exact HB.out | apply below_alloc | apply pw_below_drewN | apply below_drew1 | refine below_set ?_ GE138.out) | exact HB.out)⟩
                     (try clear HO126)
                     (try clear HO131)
                     (try clear HO134)
                     (try clear HO141)
                     (try clear HO144)
                     (try clear BK138)
                     (try clear HB)
                     generalize ((((w41.setCell ⟨gb138, 0, none⟩ (.slice Ao42 t139.length co42)).setCell ⟨gb138, 1, none⟩ (.slice Ao44 t142.length co44)).setCell ⟨gb138, 2, none⟩ (.int .i64 t145)).setCell ⟨gb138, 3, none⟩ (.bool t146)) = w45 at n0_ n1_ n2_ n3_ n4_ n5_ n6_ ⊢
                     have HO126 := n0_
                     have HO131 := n1_
                     have HO134 := n2_
                     have HO141 := n3_
                     have HO144 := n4_
                     have BK138 := n5_
                     have HB := n6_
                     clear n0_ n1_ n2_ n3_ n4_ n5_ n6_
                     have n0_ := Aside0.mk (Kd.R_drew HO126.out)
                     have n1_ := Aside0.mk (Kd.V_drew HO131.out)
                     have n2_ := Aside0.mk (Kd.V_drew HO134.out)
                     have n3_ := Aside0.mk (Kd.V_drew HO141.out)
                     have n4_ := Aside0.mk (Kd.V_drew HO144.out)
                     have n5_ := Aside0.mk (blk_drew BK138.out)
                     have n6_ := Aside0.mk (below_drew1 HB.out)
                     clear HO126
                     clear HO131
                     clear HO134
                     clear HO141
                     clear HO144
                     clear BK138
                     clear HB
                     have HO126 := n0_
                     have HO131 := n1_
                     have HO134 := n2_
                     have HO141 := n3_
                     have HO144 := n4_
                     have BK138 := n5_
                     have HB := n6_
                     clear n0_ n1_ n2_ n3_ n4_ n5_ n6_
                     refine start_ (n := 12) (S := fun w' => w'.cell? ⟨gb138, 0, none⟩ = some (.slice Ao42 t139.length co42) ∧ w'.cell? ⟨gb138, 1, none⟩ = some (.slice Ao44 t142.length co44) ∧ w'.cell? ⟨gb138, 2, none⟩ = some (.int .i64 t145) ∧ w'.cell? ⟨gb138, 3, none⟩ = some (.bool t146)) (ds := [9]) #[false, false, false, false, false, false, false, false, false, false, false, false] (by kernel_rfl) rfl rfl ⟨(blk_cell BK138.out 0).trans rfl, (blk_cell BK138.out 1).trans rfl, (blk_cell BK138.out 2).trans rfl, (blk_cell BK138.out 3).trans rfl⟩ (fun hHeld => ?_); refine with_tabW bellmanlaw04_lives.tab5 bellmanlaw04_lives.bits5 (fun HT_ HW_ => ?_)
                     generalize w45.drew = w46 at HO126 HO131 HO134 HO141 HO144 BK138 HB hHeld ⊢
                     refine pure_ (i := 1) (N := some 47) (v := ?_) (a' := ?_) #[false, true, false, false, false, false, false, false, false, false, false, false] rfl rfl (any_of HT_.out (by kernel_rfl)) (fun _ _ _ h => h) (Or.inl ⟨by rfl, ?_⟩) ?_ ?_
                     rotate_left
                     ·intro w'
                      go_simp
                      with_reducible rfl
                     rotate_left
                     ·simp only [Act.put, List.setIfInBounds_toArray, List.set_cons_zero, List.set_cons_succ, i64_w, i32_w]
                      rfl
                     refine take_ (i := 0) (N := some 46) (v := ?_) (a' := ?_) #[true, true, false, false, false, false, false, false, false, false, false, false] rfl rfl (take_ofW HT_.out HW_.out (by kernel_rfl)) (fun _ _ _ h => h) (Or.inl ⟨by rfl, ?_⟩) hHeld ?_ ?_
                     rotate_left
                     ·rintro w' ⟨s0, s1, s2, s3⟩
                      go_simp
                      with_reducible rfl
                     rotate_left
                     ·simp only [Act.put, List.setIfInBounds_toArray, List.set_cons_zero, List.set_cons_succ, i64_w, i32_w]
                      rfl
                     refine one_ (i := 2) (N := some 48) #[true, true, true, false, false, false, false, false, false, false, false, false] rfl rfl (one_of HT_.out (by kernel_rfl)) (by decide) (fun K hK => ?_)
                     refine Kd.R_make_step (Kd.int .u8) _ 5 (by rfl) (N := 48) rfl 48 _ _ rfl 60 rfl rfl Tryd.underlying48 (.int .u8 0) 1 info5 rfl (by decide) (by omega) 0 (ok := fun _ => True) (okp := fun _ => True) rfl (fun _ hk => hk) trivial (by omega) (by omega) (Below.refl _ _) (Nat.le_refl _) ?_
                     intro v150 w47 ho48 hb hg_ hnew_
                     clear hg_ hnew_
                     (first | rw [← Ny149.out] at ho48 | (simp only [Int.reduceToNat] at ho48; rw [← Ny149.out] at ho48))
                     have n0_ := Aside0.mk (Kd.R_elder' (by (with_reducible repeat (first | apply Kd.R_alloc | apply Kd.R_drewN | apply Kd.R_drew)); exact HO126.out) (Kd.R_base ho48) hb)
                     have n1_ := Aside0.mk (Kd.V_elder' (by (with_reducible repeat (first | apply Kd.V_alloc | apply Kd.V_drewN | apply Kd.V_drew)); exact HO131.out) (Kd.R_base ho48) hb)
                     have n2_ := Aside0.mk (Kd.V_elder' (by (with_reducible repeat (first | apply Kd.V_alloc | apply Kd.V_drewN | apply Kd.V_drew)); exact HO134.out) (Kd.R_base ho48) hb)
                     have n3_ := Aside0.mk (Kd.V_elder' (by (with_reducible repeat (first | apply Kd.V_alloc | apply Kd.V_drewN | apply Kd.V_drew)); exact HO141.out) (Kd.R_base ho48) hb)
                     have n4_ := Aside0.mk (Kd.V_elder' (by (with_reducible repeat (first | apply Kd.V_alloc | apply Kd.V_drewN | apply Kd.V_drew)); exact HO144.out) (Kd.R_base ho48) hb)
                     have n5_ := Aside0.mk (Kd.R_lower (Kd.R_new' ho48 (Kd.R_lt (by (with_reducible repeat (first | apply Kd.R_alloc | apply Kd.R_drewN | apply Kd.R_drew)); exact HO126.out))) (below_size (by repeat (first | (with_reducible first | exact HB.out | apply below_alloc | apply pw_below_drewN | apply below_drew1 | refine below_set ?_ GE138.out) | exact HB.out))))
                     have n6_ := Aside0.mk (blk_below (g := gb138) (o := .cells #[.slice Ao42 t139.length co42, .slice Ao44 t142.length co44, .int .i64 t145, .bool t146] 25 (0, 0)) (by (with_reducible repeat (first | refine blk_drewN ?_ _ | refine blk_drew ?_ | refine blk_alloc ?_ _)); exact BK138.out) hb)
                     have n7_ := Aside0.mk (below_step (by repeat (first | (with_reducible first | exact HB.out | apply below_alloc | apply pw_below_drewN | apply below_drew1 | refine below_set ?_ GE138.out) | exact HB.out)) hb)
                     clear HO126
                     clear HO131
                     clear HO134
                     clear HO141
                     clear HO144
                     clear BK138
                     clear HB
                     have HO126 := n0_
                     have HO131 := n1_
                     have HO134 := n2_
                     have HO141 := n3_
                     have HO144 := n4_
                     have HO151 := n5_
                     have BK138 := n6_
                     have HB := n7_
                     clear n0_ n1_ n2_ n3_ n4_ n5_ n6_ n7_
                     clear hb ho48
                     refine hK.out _ _ ⟨(blk_cell BK138.out 0).trans rfl, (blk_cell BK138.out 1).trans rfl, (blk_cell BK138.out 2).trans rfl, (blk_cell BK138.out 3).trans rfl⟩ (fun hHeld => ?_)
                     clear hK K
                     refine norm_ (a' := ?_) ?_ ?_
                     rotate_left
                     ·show Act.put _ (some 48) _ = _
                      simp only [Act.put, List.setIfInBounds_toArray, List.set_cons_zero, List.set_cons_succ, i64_w, i32_w]
                      rfl
                     refine one_ (i := 3) (N := some 49) #[true, true, true, true, false, false, false, false, false, false, false, false] rfl rfl (one_of HT_.out (by kernel_rfl)) (by decide) (fun K hK => ?_)
                     have hcv49 := own_string (P := Tryd.prog) Tryd.underlying48 Tryd.underlying5 Tryd.underlying9 (Kd.own_of_R HO151.out)
                     refine value_ (w1 := ?_) (v := ?_) (by rfl) rfl ?_ ?_
                     rotate_left 2
                     ·go_simp
                      constructor
                      ·rfl
                      ·rfl
                     clear hcv49
                     refine hK.out _ _ ⟨(blk_cell BK138.out 0).trans rfl, (blk_cell BK138.out 1).trans rfl, (blk_cell BK138.out 2).trans rfl, (blk_cell BK138.out 3).trans rfl⟩ (fun hHeld => ?_)
                     clear hK K
                     refine norm_ (a' := ?_) ?_ ?_
                     rotate_left
                     ·show Act.put _ (some 49) _ = _
                      simp only [Act.put, List.setIfInBounds_toArray, List.set_cons_zero, List.set_cons_succ, i64_w, i32_w]
                      rfl
                     refine one_ (i := 4) (N := some 50) #[true, true, true, true, true, false, false, false, false, false, false, false] rfl rfl (one_of HT_.out (by kernel_rfl)) (by decide) (fun K hK => ?_)
                     refine goes_ Tryd.func11 (by kernel_rfl) rfl #[.agg #[.slice Ao42 t139.length co42, .slice Ao44 t142.length co44, .int .i64 t145, .bool t146], .int .i64 2, .int .i64 5, .int .i64 t147, .string (strOfNums y149)] (by rfl) rfl rfl (by (try simp only [List.map_toArray, List.map_cons, List.map_nil]); first | done | rfl | (simp only [List.length_drop, List.length_take]; rfl)) ?_
                     with_reducible refine (trail_Append.calls _ _ t139 _ _ t142 t145 t146 2 5 t147 (strOfNums y149) t152 t155 t158 t159 t160 t161 _ ?side1 ?side2 ?side3 ?side4 A6.out).mono ?_
                     (case side1 => repeat (first | exact (Kd.V_reads' HO141.out).2.2 | (with_reducible refine Kd.C_alloc ?_ _) | (with_reducible refine Kd.C_drewN ?_ _) | (with_reducible refine Kd.C_drew ?_)))
                     (case side2 => exact (Kd.V_reads' HO141.out).2.1)
                     (case side3 => repeat (first | exact (Kd.V_reads' HO144.out).2.2 | (with_reducible refine Kd.C_alloc ?_ _) | (with_reducible refine Kd.C_drewN ?_ _) | (with_reducible refine Kd.C_drew ?_)))
                     (case side4 => exact (Kd.V_reads' HO144.out).2.1)
                     rintro e w50 ⟨v153, v156, rfl, ho0, ho1, hb⟩
                     refine ⟨_, rfl, ?_⟩
                     have n0_ := Aside0.mk (Kd.R_below (by (with_reducible repeat (first | apply Kd.R_alloc | apply Kd.R_drewN | apply Kd.R_drew)); exact HO126.out) hb)
                     have n1_ := Aside0.mk (Kd.V_below (by (with_reducible repeat (first | apply Kd.V_alloc | apply Kd.V_drewN | apply Kd.V_drew)); exact HO131.out) hb)
                     have n2_ := Aside0.mk (Kd.V_below (by (with_reducible repeat (first | apply Kd.V_alloc | apply Kd.V_drewN | apply Kd.V_drew)); exact HO134.out) hb)
                     have n3_ := Aside0.mk (Kd.V_below (by (with_reducible repeat (first | apply Kd.V_alloc | apply Kd.V_drewN | apply Kd.V_drew)); exact HO141.out) hb)
                     have n4_ := Aside0.mk (Kd.V_below (by (with_reducible repeat (first | apply Kd.V_alloc | apply Kd.V_drewN | apply Kd.V_drew)); exact HO144.out) hb)
                     have n5_ := Aside0.mk (Kd.R_below (by (with_reducible repeat (first | apply Kd.R_alloc | apply Kd.R_drewN | apply Kd.R_drew)); exact HO151.out) hb)
                     have n6_ := Aside0.mk (Kd.V_lower (Kd.V_mono (ok' := fun k_ => some k_ ≠ (v125 : Value).ownBlock ∧ some k_ ≠ (v150 : Value).ownBlock ∧ k_ ≠ gb138) ho0 (fun k_ hk_ => ⟨(Kd.fresh' (Kd.R_lt (by (with_reducible repeat (first | apply Kd.R_alloc | apply Kd.R_drewN | apply Kd.R_drew)); exact HO126.out)) k_ hk_), (Kd.fresh' (Kd.R_lt (by (with_reducible repeat (first | apply Kd.R_alloc | apply Kd.R_drewN | apply Kd.R_drew)); exact HO151.out)) k_ hk_), (Kd.freshB (g := gb138) (o := .cells #[.slice Ao42 t139.length co42, .slice Ao44 t142.length co44, .int .i64 t145, .bool t146] 25 (0, 0)) (by (with_reducible repeat (first | refine blk_drewN ?_ _ | refine blk_drew ?_ | refine blk_alloc ?_ _)); exact BK138.out) k_ hk_)⟩)) (below_size (by repeat (first | (with_reducible first | exact HB.out | apply below_alloc | apply pw_below_drewN | apply below_drew1 | refine below_set ?_ GE138.out) | exact HB.out))))
                     have n7_ := Aside0.mk (Kd.V_lower (Kd.V_mono (ok' := fun k_ => some k_ ≠ (v125 : Value).ownBlock ∧ some k_ ≠ (v150 : Value).ownBlock ∧ k_ ≠ gb138) ho1 (fun k_ hk_ => ⟨(Kd.fresh' (Kd.R_lt (by (with_reducible repeat (first | apply Kd.R_alloc | apply Kd.R_drewN | apply Kd.R_drew)); exact HO126.out)) k_ hk_), (Kd.fresh' (Kd.R_lt (by (with_reducible repeat (first | apply Kd.R_alloc | apply Kd.R_drewN | apply Kd.R_drew)); exact HO151.out)) k_ hk_), (Kd.freshB (g := gb138) (o := .cells #[.slice Ao42 t139.length co42, .slice Ao44 t142.length co44, .int .i64 t145, .bool t146] 25 (0, 0)) (by (with_reducible repeat (first | refine blk_drewN ?_ _ | refine blk_drew ?_ | refine blk_alloc ?_ _)); exact BK138.out) k_ hk_)⟩)) (below_size (by repeat (first | (with_reducible first | exact HB.out | apply below_alloc | apply pw_below_drewN | apply below_drew1 | refine below_set ?_ GE138.out) | exact HB.out))))
                     have n8_ := Aside0.mk (blk_below (g := gb138) (o := .cells #[.slice Ao42 t139.length co42, .slice Ao44 t142.length co44, .int .i64 t145, .bool t146] 25 (0, 0)) (by (with_reducible repeat (first | refine blk_drewN ?_ _ | refine blk_drew ?_ | refine blk_alloc ?_ _)); exact BK138.out) hb)
                     have n9_ := Aside0.mk (below_step (by repeat (first | (with_reducible first | exact HB.out | apply below_alloc | apply pw_below_drewN | apply below_drew1 | refine below_set ?_ GE138.out) | exact HB.out)) hb)
                     clear HO126
                     clear HO131
                     clear HO134
                     clear HO141
                     clear HO144
                     clear HO151
                     clear BK138
                     clear HB
                     have HO126 := n0_
                     have HO131 := n1_
                     have HO134 := n2_
                     have HO141 := n3_
                     have HO144 := n4_
                     have HO151 := n5_
                     have HO154 := n6_
                     have HO157 := n7_
                     have BK138 := n8_
                     have HB := n9_
                     clear n0_ n1_ n2_ n3_ n4_ n5_ n6_ n7_ n8_ n9_
                     (try clear hb)
                     (try clear hb2)
                     (try clear hk)
                     (try clear hi)
                     (try clear ho0)
                     (try clear ho1)
                     obtain ⟨Ao51, co51, eo51⟩ := Kd.V_slice HO154.out
                     (first | subst eo51 | (injection eo51 with f1_ f2_ f3_; have f4_ := f1_.symm; have f5_ := f3_.symm; clear f1_ f2_ f3_; subst f4_; subst f5_))
                     obtain ⟨Ao53, co53, eo53⟩ := Kd.V_slice HO157.out
                     (first | subst eo53 | (injection eo53 with f1_ f2_ f3_; have f4_ := f1_.symm; have f5_ := f3_.symm; clear f1_ f2_ f3_; subst f4_; subst f5_))
                     refine hK.out _ _ ⟨(blk_cell BK138.out 0).trans rfl, (blk_cell BK138.out 1).trans rfl, (blk_cell BK138.out 2).trans rfl, (blk_cell BK138.out 3).trans rfl⟩ (fun hHeld => ?_)
                     clear hK K
                     refine norm_ (a' := ?_) ?_ ?_
                     rotate_left
                     ·show Act.put _ (some 50) _ = _
                      simp only [Act.put, List.setIfInBounds_toArray, List.set_cons_zero, List.set_cons_succ, i64_w, i32_w]
                      rfl
                     refine pure_ (i := 5) (N := some 45) (v := ?_) (a' := ?_) #[true, true, true, true, true, true, false, false, false, false, false, false] rfl rfl (any_of HT_.out (by kernel_rfl)) (fun _ _ _ h => h) (Or.inl ⟨by rfl, ?_⟩) ?_ ?_
                     rotate_left
                     ·intro w'
                      go_simp
                      with_reducible rfl
                     rotate_left
                     ·simp only [Act.put, List.setIfInBounds_toArray, List.set_cons_zero, List.set_cons_succ, i64_w, i32_w]
                      rfl
                     refine pure_ (i := 6) (N := some 51) (v := ?_) (a' := ?_) #[true, true, true, true, true, true, true, false, false, false, false, false] rfl rfl (any_of HT_.out (by kernel_rfl)) (fun _ _ _ h => h) (Or.inl ⟨by rfl, ?_⟩) ?_ ?_
                     rotate_left
                     ·intro w'
                      go_simp
                      with_reducible rfl
                     rotate_left
                     ·simp only [Act.put, List.setIfInBounds_toArray, List.set_cons_zero, List.set_cons_succ, i64_w, i32_w]
                      rfl
                     refine pure_ (i := 7) (N := some 52) (v := ?_) (a' := ?_) #[true, true, true, true, true, true, true, true, false, false, false, false] rfl rfl (any_of HT_.out (by kernel_rfl)) (fun _ _ _ h => h) (Or.inl ⟨by rfl, ?_⟩) ?_ ?_
                     rotate_left
                     ·intro w'
                      go_simp
                      with_reducible rfl
                     rotate_left
                     ·simp only [Act.put, List.setIfInBounds_toArray, List.set_cons_zero, List.set_cons_succ, i64_w, i32_w]
                      rfl
                     refine pure_ (i := 8) (N := some 53) (v := ?_) (a' := ?_) #[true, true, true, true, true, true, true, true, true, false, false, false] rfl rfl (any_of HT_.out (by kernel_rfl)) (fun _ _ _ h => h) (Or.inl ⟨by rfl, ?_⟩) ?_ ?_
                     rotate_left
                     ·intro w'
                      go_simp
                      with_reducible rfl
                     rotate_left
                     ·simp only [Act.put, List.setIfInBounds_toArray, List.set_cons_zero, List.set_cons_succ, i64_w, i32_w]
                      rfl
                     refine last_ (i := 9) (N := none) #[true, true, true, true, true, true, true, true, true, true, false, false] rfl rfl (one_of HT_.out (by kernel_rfl)) (by decide) (fun K hK => ?_)
                     have hs52 : w50.cell? ⟨gb138, 0, none⟩ = some (.slice Ao42 t139.length co42) := (blk_cell BK138.out 0).trans rfl
                     have hfs52 := blk_frozen BK138.out 0
                     have hs54 : w50.cell? ⟨gb138, 1, none⟩ = some (.slice Ao44 t142.length co44) := (blk_cell BK138.out 1).trans rfl
                     have hfs54 := blk_frozen BK138.out 1
                     have hs55 : w50.cell? ⟨gb138, 2, none⟩ = some (.int .i64 t145) := (blk_cell BK138.out 2).trans rfl
                     have hfs55 := blk_frozen BK138.out 2
                     have hs56 : w50.cell? ⟨gb138, 3, none⟩ = some (.bool t146) := (blk_cell BK138.out 3).trans rfl
                     have hfs56 := blk_frozen BK138.out 3
                     refine skip_ (w1 := ?_) (by rfl) rfl ?_ ?_
                     rotate_left
                     ·go_simp
                      rfl
                     refine hK.out _ _ ?_
                     clear hK K
                     refine pure_ (i := 10) (N := some 9) (v := ?_) (a' := ?_) #[true, true, true, true, true, true, true, true, true, true, true, false] rfl rfl (any_of HT_.out (by kernel_rfl)) (fun _ _ _ h => h) (Or.inl ⟨by rfl, ?_⟩) ?_ ?_
                     rotate_left
                     ·intro w'
                      go_simp
                      with_reducible rfl
                     rotate_left
                     ·simp only [Act.put, List.setIfInBounds_toArray, List.set_cons_zero, List.set_cons_succ, i64_w, i32_w]
                      rfl
                     refine pure_ (i := 11) (N := some 10) (v := ?_) (a' := ?_) #[true, true, true, true, true, true, true, true, true, true, true, true] rfl rfl (any_of HT_.out (by kernel_rfl)) (fun _ _ _ h => h) (Or.inl ⟨by rfl, ?_⟩) ?_ ?_
                     rotate_left
                     ·intro w'
                      go_simp
                      with_reducible rfl
                     rotate_left
                     ·simp only [Act.put, List.setIfInBounds_toArray, List.set_cons_zero, List.set_cons_succ, i64_w, i32_w]
                      rfl
                     refine done_ (done_of HT_.out (by kernel_rfl)) ?_
                     have hcz57_0 : w50.cell? ⟨gb138, 0, none⟩ = some (.slice Ao42 t139.length co42) := (blk_cell BK138.out 0).trans rfl
                     have hcz57_1 : w50.cell? ⟨gb138, 1, none⟩ = some (.slice Ao44 t142.length co44) := (blk_cell BK138.out 1).trans rfl
                     have hcz57_2 : w50.cell? ⟨gb138, 2, none⟩ = some (.int .i64 t145) := (blk_cell BK138.out 2).trans rfl
                     have hcz57_3 : w50.cell? ⟨gb138, 3, none⟩ = some (.bool t146) := (blk_cell BK138.out 3).trans rfl
                     have hfz57_0 := blk_frozen BK138.out 0
                     have hfz57_1 := blk_frozen BK138.out 1
                     have hfz57_2 := blk_frozen BK138.out 2
                     have hfz57_3 := blk_frozen BK138.out 3
                     try go_wp2_with (first | ((with_reducible refine gate_callee (f := 9) rfl ?_); refine goesL_ (some 56) rfl rfl Tryd.func9 (by kernel_rfl) rfl #[.agg #[.slice Ao51 t152.length co51, .slice Ao53 t155.length co53, .int .i64 t158, .bool t159], .int .i64 2, .int .i64 5] rfl (by (try simp only [List.map_toArray, List.map_cons, List.map_nil]); first | done | rfl | (simp only [List.length_drop, List.length_take]; rfl)) ?_; (with_reducible refine (trail_Read.calls _ _ t152 _ _ t155 t158 t159 2 5 t162 t165 t166 _ ?side1 ?side2 ?side3 ?side4 A7.out).mono ?_); (case side1 => refine (Kd.V_reads' (e := 9) (base := w.heap.size) (ok := fun k_ => (some k_ ≠ (v125 : Value).ownBlock ∧ (some k_ ≠ (v150 : Value).ownBlock ∧ k_ ≠ gb138))) (n := t152.length) (c := co51) ?_).2.2; exact (by (with_reducible repeat (first | apply Kd.V_alloc | apply Kd.V_drewN | apply Kd.V_drew)); exact (Kd.V_mono (Kd.V_far (p := ⟨gb138, 3, none⟩) (Kd.V_far (p := ⟨gb138, 2, none⟩) (Kd.V_far (p := ⟨gb138, 1, none⟩) (Kd.V_far (p := ⟨gb138, 0, none⟩) (Kd.V_mono HO154.out (fun k_ hk => (⟨hk, hk.2.2⟩ : _ ∧ k_ ≠ gb138))) (fun _ hk => hk.2) (.slice Ao51 t152.length co51)) (fun _ hk => hk.2) (.slice Ao53 t155.length co53)) (fun _ hk => hk.2) (.int .i64 t158)) (fun _ hk => hk.2) (.bool t159)) (fun _ h_ => h_.1)))); (case side2 => exact (Kd.V_reads' HO154.out).2.1); (case side3 => refine (Kd.V_reads' (e := 60) (base := w.heap.size) (ok := fun k_ => (some k_ ≠ (v125 : Value).ownBlock ∧ (some k_ ≠ (v150 : Value).ownBlock ∧ k_ ≠ gb138))) (n := t155.length) (c := co53) ?_).2.2; exact (by (with_reducible repeat (first | apply Kd.V_alloc | apply Kd.V_drewN | apply Kd.V_drew)); exact (Kd.V_mono (Kd.V_far (p := ⟨gb138, 3, none⟩) (Kd.V_far (p := ⟨gb138, 2, none⟩) (Kd.V_far (p := ⟨gb138, 1, none⟩) (Kd.V_far (p := ⟨gb138, 0, none⟩) (Kd.V_mono HO157.out (fun k_ hk => (⟨hk, hk.2.2⟩ : _ ∧ k_ ≠ gb138))) (fun _ hk => hk.2) (.slice Ao51 t152.length co51)) (fun _ hk => hk.2) (.slice Ao53 t155.length co53)) (fun _ hk => hk.2) (.int .i64 t158)) (fun _ hk => hk.2) (.bool t159)) (fun _ h_ => h_.1)))); (case side4 => exact (Kd.V_reads' HO157.out).2.1); rintro e w58 ⟨v163, rfl, ho0, hb⟩; refine ⟨_, rfl, ?_⟩; have n0_ := Aside0.mk (Kd.R_below (by (with_reducible repeat (first | apply Kd.R_alloc | apply Kd.R_drewN | apply Kd.R_drew)); exact (Kd.R_mono (Kd.R_far (p := ⟨gb138, 3, none⟩) (Kd.R_far (p := ⟨gb138, 2, none⟩) (Kd.R_far (p := ⟨gb138, 1, none⟩) (Kd.R_far (p := ⟨gb138, 0, none⟩) (Kd.R_types HO126.out BK138.out (by decide)) (fun _ hk => hk.2) (.slice Ao51 t152.length co51)) (fun _ hk => hk.2) (.slice Ao53 t155.length co53)) (fun _ hk => hk.2) (.int .i64 t158)) (fun _ hk => hk.2) (.bool t159)) (fun _ h_ => h_.1))) hb); have n1_ := Aside0.mk (Kd.V_below (by (with_reducible repeat (first | apply Kd.V_alloc | apply Kd.V_drewN | apply Kd.V_drew)); exact (Kd.V_mono (Kd.V_far (p := ⟨gb138, 3, none⟩) (Kd.V_far (p := ⟨gb138, 2, none⟩) (Kd.V_far (p := ⟨gb138, 1, none⟩) (Kd.V_far (p := ⟨gb138, 0, none⟩) (Kd.V_mono HO131.out (fun k_ hk => (⟨hk, hk.1.2⟩ : _ ∧ k_ ≠ gb138))) (fun _ hk => hk.2) (.slice Ao51 t152.length co51)) (fun _ hk => hk.2) (.slice Ao53 t155.length co53)) (fun _ hk => hk.2) (.int .i64 t158)) (fun _ hk => hk.2) (.bool t159)) (fun _ h_ => h_.1))) hb); have n2_ := Aside0.mk (Kd.V_below (by (with_reducible repeat (first | apply Kd.V_alloc | apply Kd.V_drewN | apply Kd.V_drew)); exact (Kd.V_mono (Kd.V_far (p := ⟨gb138, 3, none⟩) (Kd.V_far (p := ⟨gb138, 2, none⟩) (Kd.V_far (p := ⟨gb138, 1, none⟩) (Kd.V_far (p := ⟨gb138, 0, none⟩) (Kd.V_mono HO134.out (fun k_ hk => (⟨hk, hk.1.2⟩ : _ ∧ k_ ≠ gb138))) (fun _ hk => hk.2) (.slice Ao51 t152.length co51)) (fun _ hk => hk.2) (.slice Ao53 t155.length co53)) (fun _ hk => hk.2) (.int .i64 t158)) (fun _ hk => hk.2) (.bool t159)) (fun _ h_ => h_.1))) hb); have n3_ := Aside0.mk (Kd.V_below (by (with_reducible repeat (first | apply Kd.V_alloc | apply Kd.V_drewN | apply Kd.V_drew)); exact (Kd.V_mono (Kd.V_far (p := ⟨gb138, 3, none⟩) (Kd.V_far (p := ⟨gb138, 2, none⟩) (Kd.V_far (p := ⟨gb138, 1, none⟩) (Kd.V_far (p := ⟨gb138, 0, none⟩) (Kd.V_mono HO141.out (fun k_ hk => (⟨hk, hk.1.2⟩ : _ ∧ k_ ≠ gb138))) (fun _ hk => hk.2) (.slice Ao51 t152.length co51)) (fun _ hk => hk.2) (.slice Ao53 t155.length co53)) (fun _ hk => hk.2) (.int .i64 t158)) (fun _ hk => hk.2) (.bool t159)) (fun _ h_ => h_.1))) hb); have n4_ := Aside0.mk (Kd.V_below (by (with_reducible repeat (first | apply Kd.V_alloc | apply Kd.V_drewN | apply Kd.V_drew)); exact (Kd.V_mono (Kd.V_far (p := ⟨gb138, 3, none⟩) (Kd.V_far (p := ⟨gb138, 2, none⟩) (Kd.V_far (p := ⟨gb138, 1, none⟩) (Kd.V_far (p := ⟨gb138, 0, none⟩) (Kd.V_mono HO144.out (fun k_ hk => (⟨hk, hk.1.2⟩ : _ ∧ k_ ≠ gb138))) (fun _ hk => hk.2) (.slice Ao51 t152.length co51)) (fun _ hk => hk.2) (.slice Ao53 t155.length co53)) (fun _ hk => hk.2) (.int .i64 t158)) (fun _ hk => hk.2) (.bool t159)) (fun _ h_ => h_.1))) hb); have n5_ := Aside0.mk (Kd.R_below (by (with_reducible repeat (first | apply Kd.R_alloc | apply Kd.R_drewN | apply Kd.R_drew)); exact (Kd.R_mono (Kd.R_far (p := ⟨gb138, 3, none⟩) (Kd.R_far (p := ⟨gb138, 2, none⟩) (Kd.R_far (p := ⟨gb138, 1, none⟩) (Kd.R_far (p := ⟨gb138, 0, none⟩) (Kd.R_types HO151.out BK138.out (by decide)) (fun _ hk => hk.2) (.slice Ao51 t152.length co51)) (fun _ hk => hk.2) (.slice Ao53 t155.length co53)) (fun _ hk => hk.2) (.int .i64 t158)) (fun _ hk => hk.2) (.bool t159)) (fun _ h_ => h_.1))) hb); have n6_ := Aside0.mk (Kd.V_below (by (with_reducible repeat (first | apply Kd.V_alloc | apply Kd.V_drewN | apply Kd.V_drew)); exact (Kd.V_mono (Kd.V_far (p := ⟨gb138, 3, none⟩) (Kd.V_far (p := ⟨gb138, 2, none⟩) (Kd.V_far (p := ⟨gb138, 1, none⟩) (Kd.V_far (p := ⟨gb138, 0, none⟩) (Kd.V_mono HO154.out (fun k_ hk => (⟨hk, hk.2.2⟩ : _ ∧ k_ ≠ gb138))) (fun _ hk => hk.2) (.slice Ao51 t152.length co51)) (fun _ hk => hk.2) (.slice Ao53 t155.length co53)) (fun _ hk => hk.2) (.int .i64 t158)) (fun _ hk => hk.2) (.bool t159)) (fun _ h_ => h_.1))) hb); have n7_ := Aside0.mk (Kd.V_below (by (with_reducible repeat (first | apply Kd.V_alloc | apply Kd.V_drewN | apply Kd.V_drew)); exact (Kd.V_mono (Kd.V_far (p := ⟨gb138, 3, none⟩) (Kd.V_far (p := ⟨gb138, 2, none⟩) (Kd.V_far (p := ⟨gb138, 1, none⟩) (Kd.V_far (p := ⟨gb138, 0, none⟩) (Kd.V_mono HO157.out (fun k_ hk => (⟨hk, hk.2.2⟩ : _ ∧ k_ ≠ gb138))) (fun _ hk => hk.2) (.slice Ao51 t152.length co51)) (fun _ hk => hk.2) (.slice Ao53 t155.length co53)) (fun _ hk => hk.2) (.int .i64 t158)) (fun _ hk => hk.2) (.bool t159)) (fun _ h_ => h_.1))) hb); have n8_ := Aside0.mk (Kd.V_lower (Kd.V_mono (ok' := fun k_ => some k_ ≠ (v125 : Value).ownBlock ∧ some k_ ≠ (v150 : Value).ownBlock ∧ k_ ≠ gb138) ho0 (fun k_ hk_ => ⟨(Kd.fresh' (Kd.R_lt (by (with_reducible repeat (first | apply Kd.R_alloc | apply Kd.R_drewN | apply Kd.R_drew)); exact (Kd.R_mono (Kd.R_far (p := ⟨gb138, 3, none⟩) (Kd.R_far (p := ⟨gb138, 2, none⟩) (Kd.R_far (p := ⟨gb138, 1, none⟩) (Kd.R_far (p := ⟨gb138, 0, none⟩) (Kd.R_types HO126.out BK138.out (by decide)) (fun _ hk => hk.2) (.slice Ao51 t152.length co51)) (fun _ hk => hk.2) (.slice Ao53 t155.length co53)) (fun _ hk => hk.2) (.int .i64 t158)) (fun _ hk => hk.2) (.bool t159)) (fun _ h_ => h_.1)))) k_ hk_), (Kd.fresh' (Kd.R_lt (by (with_reducible repeat (first | apply Kd.R_alloc | apply Kd.R_drewN | apply Kd.R_drew)); exact (Kd.R_mono (Kd.R_far (p := ⟨gb138, 3, none⟩) (Kd.R_far (p := ⟨gb138, 2, none⟩) (Kd.R_far (p := ⟨gb138, 1, none⟩) (Kd.R_far (p := ⟨gb138, 0, none⟩) (Kd.R_types HO151.out BK138.out (by decide)) (fun _ hk => hk.2) (.slice Ao51 t152.length co51)) (fun _ hk => hk.2) (.slice Ao53 t155.length co53)) (fun _ hk => hk.2) (.int .i64 t158)) (fun _ hk => hk.2) (.bool t159)) (fun _ h_ => h_.1)))) k_ hk_), (Kd.freshB (g := gb138) (o := .cells #[.slice Ao51 t152.length co51, .slice Ao53 t155.length co53, .int .i64 t158, .bool t159] 25 (0, 0)) (by (with_reducible repeat (first | refine blk_drewN ?_ _ | refine blk_drew ?_ | refine blk_alloc ?_ _)); refine blk_put (cs := #[.slice Ao51 t152.length co51, .slice Ao53 t155.length co53, .int .i64 t158, .bool t146]) ?_ 3 _ rfl; (with_reducible repeat (first | refine blk_drewN ?_ _ | refine blk_drew ?_ | refine blk_alloc ?_ _)); refine blk_put (cs := #[.slice Ao51 t152.length co51, .slice Ao53 t155.length co53, .int .i64 t145, .bool t146]) ?_ 2 _ rfl; (with_reducible repeat (first | refine blk_drewN ?_ _ | refine blk_drew ?_ | refine blk_alloc ?_ _)); refine blk_put (cs := #[.slice Ao51 t152.length co51, .slice Ao44 t142.length co44, .int .i64 t145, .bool t146]) ?_ 1 _ rfl; (with_reducible repeat (first | refine blk_drewN ?_ _ | refine blk_drew ?_ | refine blk_alloc ?_ _)); refine blk_put (cs := #[.slice Ao42 t139.length co42, .slice Ao44 t142.length co44, .int .i64 t145, .bool t146]) ?_ 0 _ rfl; (with_reducible repeat (first | refine blk_drewN ?_ _ | refine blk_drew ?_ | refine blk_alloc ?_ _)); exact BK138.out) k_ hk_)⟩)) (below_size (by repeat (first | (with_reducible first | exact HB.out | apply below_alloc | apply pw_below_drewN | apply below_drew1 | refine below_set ?_ GE138.out) | exact HB.out)))); have n9_ := Aside0.mk (blk_below (g := gb138) (o := .cells #[.slice Ao51 t152.length co51, .slice Ao53 t155.length co53, .int .i64 t158, .bool t159] 25 (0, 0)) (by (with_reducible repeat (first | refine blk_drewN ?_ _ | refine blk_drew ?_ | refine blk_alloc ?_ _)); refine blk_put (cs := #[.slice Ao51 t152.length co51, .slice Ao53 t155.length co53, .int .i64 t158, .bool t146]) ?_ 3 _ rfl; (with_reducible repeat (first | refine blk_drewN ?_ _ | refine blk_drew ?_ | refine blk_alloc ?_ _)); refine blk_put (cs := #[.slice Ao51 t152.length co51, .slice Ao53 t155.length co53, .int .i64 t145, .bool t146]) ?_ 2 _ rfl; (with_reducible repeat (first | refine blk_drewN ?_ _ | refine blk_drew ?_ | refine blk_alloc ?_ _)); refine blk_put (cs := #[.slice Ao51 t152.length co51, .slice Ao44 t142.length co44, .int .i64 t145, .bool t146]) ?_ 1 _ rfl; (with_reducible repeat (first | refine blk_drewN ?_ _ | refine blk_drew ?_ | refine blk_alloc ?_ _)); refine blk_put (cs := #[.slice Ao42 t139.length co42, .slice Ao44 t142.length co44, .int .i64 t145, .bool t146]) ?_ 0 _ rfl; (with_reducible repeat (first | refine blk_drewN ?_ _ | refine blk_drew ?_ | refine blk_alloc ?_ _)); exact BK138.out) hb); have n10_ := Aside0.mk (below_step (by repeat (first | (with_reducible first | exact HB.out | apply below_alloc | apply pw_below_drewN | apply below_drew1 | refine below_set ?_ GE138.out) | exact HB.out)) hb); clear HO126; clear HO131; clear HO134; clear HO141; clear HO144; clear HO151; clear HO154; clear HO157; clear BK138; clear HB; have HO126 := n0_; have HO131 := n1_; have HO134 := n2_; have HO141 := n3_; have HO144 := n4_; have HO151 := n5_; have HO154 := n6_; have HO157 := n7_; have HO164 := n8_; have BK138 := n9_; have HB := n10_; clear n0_ n1_ n2_ n3_ n4_ n5_ n6_ n7_ n8_ n9_ n10_; (try clear hb); (try clear hb2); (try clear hk); (try clear hi); (try clear ho0)))
                     have n0_ := Aside0.mk (Kd.R_drew HO126.out)
                     have n1_ := Aside0.mk (Kd.V_drew HO131.out)
                     have n2_ := Aside0.mk (Kd.V_drew HO134.out)
                     have n3_ := Aside0.mk (Kd.V_drew HO141.out)
                     have n4_ := Aside0.mk (Kd.V_drew HO144.out)
                     have n5_ := Aside0.mk (Kd.R_drew HO151.out)
                     have n6_ := Aside0.mk (Kd.V_drew HO154.out)
                     have n7_ := Aside0.mk (Kd.V_drew HO157.out)
                     have n8_ := Aside0.mk (Kd.V_drew HO164.out)
                     have n9_ := Aside0.mk (blk_drew BK138.out)
                     have n10_ := Aside0.mk (below_drew1 HB.out)
                     clear HO126
                     clear HO131
                     clear HO134
                     clear HO141
                     clear HO144
                     clear HO151
                     clear HO154
                     clear HO157
                     clear HO164
                     clear BK138
                     clear HB
                     have HO126 := n0_
                     have HO131 := n1_
                     have HO134 := n2_
                     have HO141 := n3_
                     have HO144 := n4_
                     have HO151 := n5_
                     have HO154 := n6_
                     have HO157 := n7_
                     have HO164 := n8_
                     have BK138 := n9_
                     have HB := n10_
                     clear n0_ n1_ n2_ n3_ n4_ n5_ n6_ n7_ n8_ n9_ n10_
                     refine start_ (n := 13) (S := fun w' => w'.cell? ⟨gb138, 0, none⟩ = some (.slice Ao51 t152.length co51) ∧ w'.cell? ⟨gb138, 1, none⟩ = some (.slice Ao53 t155.length co53) ∧ w'.cell? ⟨gb138, 2, none⟩ = some (.int .i64 t158) ∧ w'.cell? ⟨gb138, 3, none⟩ = some (.bool t159)) (ds := []) #[false, false, false, false, false, false, false, false, false, false, false, false, false] (by kernel_rfl) rfl rfl ⟨(blk_cell BK138.out 0).trans rfl, (blk_cell BK138.out 1).trans rfl, (blk_cell BK138.out 2).trans rfl, (blk_cell BK138.out 3).trans rfl⟩ (fun hHeld => ?_); refine with_tabW bellmanlaw04_lives.tab7 bellmanlaw04_lives.bits7 (fun HT_ HW_ => ?_)
                     generalize w58.drew = w59 at HO126 HO131 HO134 HO141 HO144 HO151 HO154 HO157 HO164 BK138 HB hHeld ⊢
                     refine pure_ (i := 1) (N := some 62) (v := ?_) (a' := ?_) #[false, true, false, false, false, false, false, false, false, false, false, false, false] rfl rfl (any_of HT_.out (by kernel_rfl)) (fun _ _ _ h => h) (Or.inl ⟨by rfl, ?_⟩) ?_ ?_
                     rotate_left
                     ·intro w'
                      go_simp
                      with_reducible rfl
                     rotate_left
                     ·simp only [Act.put, List.setIfInBounds_toArray, List.set_cons_zero, List.set_cons_succ, i64_w, i32_w]
                      rfl
                     refine take_ (i := 0) (N := some 61) (v := ?_) (a' := ?_) #[true, true, false, false, false, false, false, false, false, false, false, false, false] rfl rfl (take_ofW HT_.out HW_.out (by kernel_rfl)) (fun _ _ _ h => h) (Or.inl ⟨by rfl, ?_⟩) hHeld ?_ ?_
                     rotate_left
                     ·rintro w' ⟨s0, s1, s2, s3⟩
                      go_simp
                      with_reducible rfl
                     rotate_left
                     ·simp only [Act.put, List.setIfInBounds_toArray, List.set_cons_zero, List.set_cons_succ, i64_w, i32_w]
                      rfl
                     refine join_ (σ := Value × Value × Value × Nat) 3 #[true, true, true, true, true, true, true, true, true, true, false, false, false] (fun s_ => [(63, s_.1), (64, .string (strOfNums y167)), (65, .tuple #[.agg #[s_.2.1, s_.2.2.1, .int .i64 t176, .bool t177], .int .i64 t178, .int .i64 t179]), (14, .pointer (some ⟨s_.2.2.2, 0, none⟩)), (60, .tuple #[.agg #[s_.2.1, s_.2.2.1, .int .i64 t176, .bool t177], .int .i64 t178, .int .i64 t179]), (66, .agg #[s_.2.1, s_.2.2.1, .int .i64 t176, .bool t177]), (67, .int .i64 t178), (68, .int .i64 t179)]) (fun s_ w' => (w'.cell? ⟨gb138, 0, none⟩ = some (.slice Ao51 t152.length co51) ∧ w'.cell? ⟨gb138, 1, none⟩ = some (.slice Ao53 t155.length co53) ∧ w'.cell? ⟨gb138, 2, none⟩ = some (.int .i64 t158) ∧ w'.cell? ⟨gb138, 3, none⟩ = some (.bool t159)) ∧ (Kd.R (Kd.int .u8) 5 w' w.heap.size (fun k_ => some k_ ≠ (v150 : Value).ownBlock ∧ some k_ ≠ (s_.1 : Value).ownBlock) v125 y124) ∧ (Kd.V Kd.string 9 w' w.heap.size (fun k_ => some k_ ≠ (v125 : Value).ownBlock ∧ some k_ ≠ (v150 : Value).ownBlock ∧ some k_ ≠ (s_.1 : Value).ownBlock ∧ k_ ≠ gb138 ∧ k_ ≠ s_.2.2.2) (.slice Ao38 t129.length co38) t129) ∧ (Kd.V k60 60 w' w.heap.size (fun k_ => some k_ ≠ (v125 : Value).ownBlock ∧ some k_ ≠ (v150 : Value).ownBlock ∧ some k_ ≠ (s_.1 : Value).ownBlock ∧ k_ ≠ gb138 ∧ k_ ≠ s_.2.2.2) (.slice Ao40 t132.length co40) t132) ∧ (Kd.V Kd.string 9 w' w.heap.size (fun k_ => some k_ ≠ (v125 : Value).ownBlock ∧ some k_ ≠ (v150 : Value).ownBlock ∧ some k_ ≠ (s_.1 : Value).ownBlock ∧ k_ ≠ gb138 ∧ k_ ≠ s_.2.2.2) (.slice Ao42 t139.length co42) t139) ∧ (Kd.V k60 60 w' w.heap.size (fun k_ => some k_ ≠ (v125 : Value).ownBlock ∧ some k_ ≠ (v150 : Value).ownBlock ∧ some k_ ≠ (s_.1 : Value).ownBlock ∧ k_ ≠ gb138 ∧ k_ ≠ s_.2.2.2) (.slice Ao44 t142.length co44) t142) ∧ (Kd.R (Kd.int .u8) 5 w' w.heap.size (fun k_ => some k_ ≠ (v125 : Value).ownBlock ∧ some k_ ≠ (s_.1 : Value).ownBlock) v150 y149) ∧ (Kd.V Kd.string 9 w' w.heap.size (fun k_ => some k_ ≠ (v125 : Value).ownBlock ∧ some k_ ≠ (v150 : Value).ownBlock ∧ some k_ ≠ (s_.1 : Value).ownBlock ∧ k_ ≠ gb138 ∧ k_ ≠ s_.2.2.2) (.slice Ao51 t152.length co51) t152) ∧ (Kd.V k60 60 w' w.heap.size (fun k_ => some k_ ≠ (v125 : Value).ownBlock ∧ some k_ ≠ (v150 : Value).ownBlock ∧ some k_ ≠ (s_.1 : Value).ownBlock ∧ k_ ≠ gb138 ∧ k_ ≠ s_.2.2.2) (.slice Ao53 t155.length co53) t155) ∧ (Kd.V Kd.string 9 w' w.heap.size (fun k_ => some k_ ≠ (v125 : Value).ownBlock ∧ some k_ ≠ (v150 : Value).ownBlock ∧ some k_ ≠ (s_.1 : Value).ownBlock ∧ k_ ≠ gb138 ∧ k_ ≠ s_.2.2.2) v163 t162) ∧ (Kd.R (Kd.int .u8) 5 w' w.heap.size (fun k_ => some k_ ≠ (v125 : Value).ownBlock ∧ some k_ ≠ (v150 : Value).ownBlock) s_.1 y167) ∧ (Kd.V Kd.string 9 w' w.heap.size (fun k_ => some k_ ≠ (v125 : Value).ownBlock ∧ some k_ ≠ (v150 : Value).ownBlock ∧ some k_ ≠ (s_.1 : Value).ownBlock ∧ k_ ≠ gb138 ∧ k_ ≠ s_.2.2.2) s_.2.1 t170) ∧ (Kd.V k60 60 w' w.heap.size (fun k_ => some k_ ≠ (v125 : Value).ownBlock ∧ some k_ ≠ (v150 : Value).ownBlock ∧ some k_ ≠ (s_.1 : Value).ownBlock ∧ k_ ≠ gb138 ∧ k_ ≠ s_.2.2.2) s_.2.2.1 t173) ∧ (w'.heap[gb138]? = some (.cells #[.slice Ao51 t152.length co51, .slice Ao53 t155.length co53, .int .i64 t158, .bool t159] 25 (0, 0))) ∧ (w'.heap[s_.2.2.2]? = some (.cells #[.slice none 0 0, .slice none 0 0, .int .i64 0, .bool false] 25 (0, 0))) ∧ (w.heap.size ≤ s_.2.2.2) ∧ (w.heap.size ≤ s_.2.2.2) ∧ (gb138 ≠ s_.2.2.2) ∧ (s_.2.2.2 ≠ gb138) ∧ (Below w.heap.size w w')) ?_ ?_
                     rotate_left
                     ·intro hCont
                      refine two_ (i := 2) (j := 9) (Ni := some 63) (Nj := some 14) #[true, true, true, false, false, false, false, false, false, false, false, false, false] #[true, true, false, false, false, false, false, false, false, true, false, false, false] rfl rfl rfl rfl (two_of HT_.out (by kernel_rfl)) (by decide) (by decide) (fun K hK => ?_) (fun K hK => ?_)
                      ·skip
                       refine Kd.R_make_step (Kd.int .u8) _ 5 (by rfl) (N := 63) rfl 48 _ _ rfl 150 rfl rfl Tryd.underlying48 (.int .u8 0) 1 info5 rfl (by decide) (by omega) 0 (ok := fun _ => True) (okp := fun _ => True) rfl (fun _ hk => hk) trivial (by omega) (by omega) (Below.refl _ _) (Nat.le_refl _) ?_
                       intro v168 w60 ho61 hb hg_ hnew_
                       clear hg_ hnew_
                       (first | rw [← Ny167.out] at ho61 | (simp only [Int.reduceToNat] at ho61; rw [← Ny167.out] at ho61))
                       have n0_ := Aside0.mk (Kd.R_elder' (by (with_reducible repeat (first | apply Kd.R_alloc | apply Kd.R_drewN | apply Kd.R_drew)); exact HO126.out) (Kd.R_base ho61) hb)
                       have n1_ := Aside0.mk (Kd.V_elder' (by (with_reducible repeat (first | apply Kd.V_alloc | apply Kd.V_drewN | apply Kd.V_drew)); exact HO131.out) (Kd.R_base ho61) hb)
                       have n2_ := Aside0.mk (Kd.V_elder' (by (with_reducible repeat (first | apply Kd.V_alloc | apply Kd.V_drewN | apply Kd.V_drew)); exact HO134.out) (Kd.R_base ho61) hb)
                       have n3_ := Aside0.mk (Kd.V_elder' (by (with_reducible repeat (first | apply Kd.V_alloc | apply Kd.V_drewN | apply Kd.V_drew)); exact HO141.out) (Kd.R_base ho61) hb)
                       have n4_ := Aside0.mk (Kd.V_elder' (by (with_reducible repeat (first | apply Kd.V_alloc | apply Kd.V_drewN | apply Kd.V_drew)); exact HO144.out) (Kd.R_base ho61) hb)
                       have n5_ := Aside0.mk (Kd.R_elder' (by (with_reducible repeat (first | apply Kd.R_alloc | apply Kd.R_drewN | apply Kd.R_drew)); exact HO151.out) (Kd.R_base ho61) hb)
                       have n6_ := Aside0.mk (Kd.V_elder' (by (with_reducible repeat (first | apply Kd.V_alloc | apply Kd.V_drewN | apply Kd.V_drew)); exact HO154.out) (Kd.R_base ho61) hb)
                       have n7_ := Aside0.mk (Kd.V_elder' (by (with_reducible repeat (first | apply Kd.V_alloc | apply Kd.V_drewN | apply Kd.V_drew)); exact HO157.out) (Kd.R_base ho61) hb)
                       have n8_ := Aside0.mk (Kd.V_elder' (by (with_reducible repeat (first | apply Kd.V_alloc | apply Kd.V_drewN | apply Kd.V_drew)); exact HO164.out) (Kd.R_base ho61) hb)
                       have n9_ := Aside0.mk (Kd.R_lower (Kd.R_new' (Kd.R_new' ho61 (Kd.R_lt (by (with_reducible repeat (first | apply Kd.R_alloc | apply Kd.R_drewN | apply Kd.R_drew)); exact HO126.out))) (Kd.R_lt (by (with_reducible repeat (first | apply Kd.R_alloc | apply Kd.R_drewN | apply Kd.R_drew)); exact HO151.out))) (below_size (by repeat (first | (with_reducible first | exact HB.out | apply below_alloc | apply pw_below_drewN | apply below_drew1 | refine below_set ?_ GE138.out) | exact HB.out))))
                       have n10_ := Aside0.mk (blk_below (g := gb138) (o := .cells #[.slice Ao51 t152.length co51, .slice Ao53 t155.length co53, .int .i64 t158, .bool t159] 25 (0, 0)) (by (with_reducible repeat (first | refine blk_drewN ?_ _ | refine blk_drew ?_ | refine blk_alloc ?_ _)); exact BK138.out) hb)
                       have n11_ := Aside0.mk (below_step (by repeat (first | (with_reducible first | exact HB.out | apply below_alloc | apply pw_below_drewN | apply below_drew1 | refine below_set ?_ GE138.out) | exact HB.out)) hb)
                       clear HO126
                       clear HO131
                       clear HO134
                       clear HO141
                       clear HO144
                       clear HO151
                       clear HO154
                       clear HO157
                       clear HO164
                       clear BK138
                       clear HB
                       have HO126 := n0_
                       have HO131 := n1_
                       have HO134 := n2_
                       have HO141 := n3_
                       have HO144 := n4_
                       have HO151 := n5_
                       have HO154 := n6_
                       have HO157 := n7_
                       have HO164 := n8_
                       have HO169 := n9_
                       have BK138 := n10_
                       have HB := n11_
                       clear n0_ n1_ n2_ n3_ n4_ n5_ n6_ n7_ n8_ n9_ n10_ n11_
                       clear hb ho61
                       refine hK.out _ _ ⟨(blk_cell BK138.out 0).trans rfl, (blk_cell BK138.out 1).trans rfl, (blk_cell BK138.out 2).trans rfl, (blk_cell BK138.out 3).trans rfl⟩ (fun hHeld => ?_)
                       clear hK K
                       refine norm_ (a' := ?_) ?_ ?_
                       rotate_left
                       ·show Act.put _ (some 63) _ = _
                        simp only [Act.put, List.setIfInBounds_toArray, List.set_cons_zero, List.set_cons_succ, i64_w, i32_w]
                        rfl
                       refine two_ (i := 3) (j := 9) (Ni := some 64) (Nj := some 14) #[true, true, true, true, false, false, false, false, false, false, false, false, false] #[true, true, true, false, false, false, false, false, false, true, false, false, false] rfl rfl rfl rfl (two_of HT_.out (by kernel_rfl)) (by decide) (by decide) (fun K hK => ?_) (fun K hK => ?_)
                       ·skip
                        have hcv62 := own_string (P := Tryd.prog) Tryd.underlying48 Tryd.underlying5 Tryd.underlying9 (Kd.own_of_R HO169.out)
                        refine value_ (w1 := ?_) (v := ?_) (by rfl) rfl ?_ ?_
                        rotate_left 2
                        ·go_simp
                         constructor
                         ·rfl
                         ·rfl
                        clear hcv62
                        refine hK.out _ _ ⟨(blk_cell BK138.out 0).trans rfl, (blk_cell BK138.out 1).trans rfl, (blk_cell BK138.out 2).trans rfl, (blk_cell BK138.out 3).trans rfl⟩ (fun hHeld => ?_)
                        clear hK K
                        refine norm_ (a' := ?_) ?_ ?_
                        rotate_left
                        ·show Act.put _ (some 64) _ = _
                         simp only [Act.put, List.setIfInBounds_toArray, List.set_cons_zero, List.set_cons_succ, i64_w, i32_w]
                         rfl
                        refine two_ (i := 4) (j := 9) (Ni := some 65) (Nj := some 14) #[true, true, true, true, true, false, false, false, false, false, false, false, false] #[true, true, true, true, false, false, false, false, false, true, false, false, false] rfl rfl rfl rfl (two_of HT_.out (by kernel_rfl)) (by decide) (by decide) (fun K hK => ?_) (fun K hK => ?_)
                        ·skip
                         refine goes_ Tryd.func11 (by kernel_rfl) rfl #[.agg #[.slice Ao51 t152.length co51, .slice Ao53 t155.length co53, .int .i64 t158, .bool t159], .int .i64 2, .int .i64 5, .int .i64 t160, .string (strOfNums y167)] (by rfl) rfl rfl (by (try simp only [List.map_toArray, List.map_cons, List.map_nil]); first | done | rfl | (simp only [List.length_drop, List.length_take]; rfl)) ?_
                         with_reducible refine (trail_Append.calls _ _ t152 _ _ t155 t158 t159 2 5 t160 (strOfNums y167) t170 t173 t176 t177 t178 t179 _ ?side1 ?side2 ?side3 ?side4 A9.out).mono ?_
                         (case side1 => repeat (first | exact (Kd.V_reads' HO154.out).2.2 | (with_reducible refine Kd.C_alloc ?_ _) | (with_reducible refine Kd.C_drewN ?_ _) | (with_reducible refine Kd.C_drew ?_)))
                         (case side2 => exact (Kd.V_reads' HO154.out).2.1)
                         (case side3 => repeat (first | exact (Kd.V_reads' HO157.out).2.2 | (with_reducible refine Kd.C_alloc ?_ _) | (with_reducible refine Kd.C_drewN ?_ _) | (with_reducible refine Kd.C_drew ?_)))
                         (case side4 => exact (Kd.V_reads' HO157.out).2.1)
                         rintro e w63 ⟨v171, v174, rfl, ho0, ho1, hb⟩
                         refine ⟨_, rfl, ?_⟩
                         have n0_ := Aside0.mk (Kd.R_below (by (with_reducible repeat (first | apply Kd.R_alloc | apply Kd.R_drewN | apply Kd.R_drew)); exact HO126.out) hb)
                         have n1_ := Aside0.mk (Kd.V_below (by (with_reducible repeat (first | apply Kd.V_alloc | apply Kd.V_drewN | apply Kd.V_drew)); exact HO131.out) hb)
                         have n2_ := Aside0.mk (Kd.V_below (by (with_reducible repeat (first | apply Kd.V_alloc | apply Kd.V_drewN | apply Kd.V_drew)); exact HO134.out) hb)
                         have n3_ := Aside0.mk (Kd.V_below (by (with_reducible repeat (first | apply Kd.V_alloc | apply Kd.V_drewN | apply Kd.V_drew)); exact HO141.out) hb)
                         have n4_ := Aside0.mk (Kd.V_below (by (with_reducible repeat (first | apply Kd.V_alloc | apply Kd.V_drewN | apply Kd.V_drew)); exact HO144.out) hb)
                         have n5_ := Aside0.mk (Kd.R_below (by (with_reducible repeat (first | apply Kd.R_alloc | apply Kd.R_drewN | apply Kd.R_drew)); exact HO151.out) hb)
                         have n6_ := Aside0.mk (Kd.V_below (by (with_reducible repeat (first | apply Kd.V_alloc | apply Kd.V_drewN | apply Kd.V_drew)); exact HO154.out) hb)
                         have n7_ := Aside0.mk (Kd.V_below (by (with_reducible repeat (first | apply Kd.V_alloc | apply Kd.V_drewN | apply Kd.V_drew)); exact HO157.out) hb)
                         have n8_ := Aside0.mk (Kd.V_below (by (with_reducible repeat (first | apply Kd.V_alloc | apply Kd.V_drewN | apply Kd.V_drew)); exact HO164.out) hb)
                         have n9_ := Aside0.mk (Kd.R_below (by (with_reducible repeat (first | apply Kd.R_alloc | apply Kd.R_drewN | apply Kd.R_drew)); exact HO169.out) hb)
                         have n10_ := Aside0.mk (Kd.V_lower (Kd.V_mono (ok' := fun k_ => some k_ ≠ (v125 : Value).ownBlock ∧ some k_ ≠ (v150 : Value).ownBlock ∧ some k_ ≠ (v168 : Value).ownBlock ∧ k_ ≠ gb138) ho0 (fun k_ hk_ => ⟨(Kd.fresh' (Kd.R_lt (by (with_reducible repeat (first | apply Kd.R_alloc | apply Kd.R_drewN | apply Kd.R_drew)); exact HO126.out)) k_ hk_), (Kd.fresh' (Kd.R_lt (by (with_reducible repeat (first | apply Kd.R_alloc | apply Kd.R_drewN | apply Kd.R_drew)); exact HO151.out)) k_ hk_), (Kd.fresh' (Kd.R_lt (by (with_reducible repeat (first | apply Kd.R_alloc | apply Kd.R_drewN | apply Kd.R_drew)); exact HO169.out)) k_ hk_), (Kd.freshB (g := gb138) (o := .cells #[.slice Ao51 t152.length co51, .slice Ao53 t155.length co53, .int .i64 t158, .bool t159] 25 (0, 0)) (by (with_reducible repeat (first | refine blk_drewN ?_ _ | refine blk_drew ?_ | refine blk_alloc ?_ _)); exact BK138.out) k_ hk_)⟩)) (below_size (by repeat (first | (with_reducible first | exact HB.out | apply below_alloc | apply pw_below_drewN | apply below_drew1 | refine below_set ?_ GE138.out) | exact HB.out))))
                         have n11_ := Aside0.mk (Kd.V_lower (Kd.V_mono (ok' := fun k_ => some k_ ≠ (v125 : Value).ownBlock ∧ some k_ ≠ (v150 : Value).ownBlock ∧ some k_ ≠ (v168 : Value).ownBlock ∧ k_ ≠ gb138) ho1 (fun k_ hk_ => ⟨(Kd.fresh' (Kd.R_lt (by (with_reducible repeat (first | apply Kd.R_alloc | apply Kd.R_drewN | apply Kd.R_drew)); exact HO126.out)) k_ hk_), (Kd.fresh' (Kd.R_lt (by (with_reducible repeat (first | apply Kd.R_alloc | apply Kd.R_drewN | apply Kd.R_drew)); exact HO151.out)) k_ hk_), (Kd.fresh' (Kd.R_lt (by (with_reducible repeat (first | apply Kd.R_alloc | apply Kd.R_drewN | apply Kd.R_drew)); exact HO169.out)) k_ hk_), (Kd.freshB (g := gb138) (o := .cells #[.slice Ao51 t152.length co51, .slice Ao53 t155.length co53, .int .i64 t158, .bool t159] 25 (0, 0)) (by (with_reducible repeat (first | refine blk_drewN ?_ _ | refine blk_drew ?_ | refine blk_alloc ?_ _)); exact BK138.out) k_ hk_)⟩)) (below_size (by repeat (first | (with_reducible first | exact HB.out | apply below_alloc | apply pw_below_drewN | apply below_drew1 | refine below_set ?_ GE138.out) | exact HB.out))))
                         have n12_ := Aside0.mk (blk_below (g := gb138) (o := .cells #[.slice Ao51 t152.length co51, .slice Ao53 t155.length co53, .int .i64 t158, .bool t159] 25 (0, 0)) (by (with_reducible repeat (first | refine blk_drewN ?_ _ | refine blk_drew ?_ | refine blk_alloc ?_ _)); exact BK138.out) hb)
                         have n13_ := Aside0.mk (below_step (by repeat (first | (with_reducible first | exact HB.out | apply below_alloc | apply pw_below_drewN | apply below_drew1 | refine below_set ?_ GE138.out) | exact HB.out)) hb)
                         clear HO126
                         clear HO131
                         clear HO134
                         clear HO141
                         clear HO144
                         clear HO151
                         clear HO154
                         clear HO157
                         clear HO164
                         clear HO169
                         clear BK138
                         clear HB
                         have HO126 := n0_
                         have HO131 := n1_
                         have HO134 := n2_
                         have HO141 := n3_
                         have HO144 := n4_
                         have HO151 := n5_
                         have HO154 := n6_
                         have HO157 := n7_
                         have HO164 := n8_
                         have HO169 := n9_
                         have HO172 := n10_
                         have HO175 := n11_
                         have BK138 := n12_
                         have HB := n13_
                         clear n0_ n1_ n2_ n3_ n4_ n5_ n6_ n7_ n8_ n9_ n10_ n11_ n12_ n13_
                         (try clear hb)
                         (try clear hb2)
                         (try clear hk)
                         (try clear hi)
                         (try clear ho0)
                         (try clear ho1)
                         refine hK.out _ _ ⟨(blk_cell BK138.out 0).trans rfl, (blk_cell BK138.out 1).trans rfl, (blk_cell BK138.out 2).trans rfl, (blk_cell BK138.out 3).trans rfl⟩ (fun hHeld => ?_)
                         clear hK K
                         refine norm_ (a' := ?_) ?_ ?_
                         rotate_left
                         ·show Act.put _ (some 65) _ = _
                          simp only [Act.put, List.setIfInBounds_toArray, List.set_cons_zero, List.set_cons_succ, i64_w, i32_w]
                          rfl
                         refine pure_ (i := 5) (N := some 60) (v := ?_) (a' := ?_) #[true, true, true, true, true, true, false, false, false, false, false, false, false] rfl rfl (any_of HT_.out (by kernel_rfl)) (fun _ _ _ h => h) (Or.inl ⟨by rfl, ?_⟩) ?_ ?_
                         rotate_left
                         ·intro w'
                          go_simp
                          with_reducible rfl
                         rotate_left
                         ·simp only [Act.put, List.setIfInBounds_toArray, List.set_cons_zero, List.set_cons_succ, i64_w, i32_w]
                          rfl
                         refine pure_ (i := 6) (N := some 66) (v := ?_) (a' := ?_) #[true, true, true, true, true, true, true, false, false, false, false, false, false] rfl rfl (any_of HT_.out (by kernel_rfl)) (fun _ _ _ h => h) (Or.inl ⟨by rfl, ?_⟩) ?_ ?_
                         rotate_left
                         ·intro w'
                          go_simp
                          with_reducible rfl
                         rotate_left
                         ·simp only [Act.put, List.setIfInBounds_toArray, List.set_cons_zero, List.set_cons_succ, i64_w, i32_w]
                          rfl
                         refine pure_ (i := 7) (N := some 67) (v := ?_) (a' := ?_) #[true, true, true, true, true, true, true, true, false, false, false, false, false] rfl rfl (any_of HT_.out (by kernel_rfl)) (fun _ _ _ h => h) (Or.inl ⟨by rfl, ?_⟩) ?_ ?_
                         rotate_left
                         ·intro w'
                          go_simp
                          with_reducible rfl
                         rotate_left
                         ·simp only [Act.put, List.setIfInBounds_toArray, List.set_cons_zero, List.set_cons_succ, i64_w, i32_w]
                          rfl
                         refine pure_ (i := 8) (N := some 68) (v := ?_) (a' := ?_) #[true, true, true, true, true, true, true, true, true, false, false, false, false] rfl rfl (any_of HT_.out (by kernel_rfl)) (fun _ _ _ h => h) (Or.inl ⟨by rfl, ?_⟩) ?_ ?_
                         rotate_left
                         ·intro w'
                          go_simp
                          with_reducible rfl
                         rotate_left
                         ·simp only [Act.put, List.setIfInBounds_toArray, List.set_cons_zero, List.set_cons_succ, i64_w, i32_w]
                          rfl
                         refine one_ (i := 9) (N := some 14) #[true, true, true, true, true, true, true, true, true, true, false, false, false] rfl rfl (one_of HT_.out (by kernel_rfl)) (by decide) (fun K hK => ?_)
                         refine box_step ?hg (N := 14) ?hd (cs := #[.slice none 0 0, .slice none 0 0, .int .i64 0, .bool false]) (t := 25) ?hr ?_; (case hd => rfl); (case hg => rfl); (case hr => first | (go_simp; done) | (go_simp; rfl))
                         intro gb180 hg w64 hbox hb
                         have n0_ := Aside0.mk (Kd.R_below (by (with_reducible repeat (first | apply Kd.R_alloc | apply Kd.R_drewN | apply Kd.R_drew)); exact HO126.out) hb)
                         have n1_ := Aside0.mk (Kd.V_below (Kd.V_elderB (by (with_reducible repeat (first | apply Kd.V_alloc | apply Kd.V_drewN | apply Kd.V_drew)); exact HO131.out) gb180 (Nat.le_of_eq hg.symm)) hb)
                         have n2_ := Aside0.mk (Kd.V_below (Kd.V_elderB (by (with_reducible repeat (first | apply Kd.V_alloc | apply Kd.V_drewN | apply Kd.V_drew)); exact HO134.out) gb180 (Nat.le_of_eq hg.symm)) hb)
                         have n3_ := Aside0.mk (Kd.V_below (Kd.V_elderB (by (with_reducible repeat (first | apply Kd.V_alloc | apply Kd.V_drewN | apply Kd.V_drew)); exact HO141.out) gb180 (Nat.le_of_eq hg.symm)) hb)
                         have n4_ := Aside0.mk (Kd.V_below (Kd.V_elderB (by (with_reducible repeat (first | apply Kd.V_alloc | apply Kd.V_drewN | apply Kd.V_drew)); exact HO144.out) gb180 (Nat.le_of_eq hg.symm)) hb)
                         have n5_ := Aside0.mk (Kd.R_below (by (with_reducible repeat (first | apply Kd.R_alloc | apply Kd.R_drewN | apply Kd.R_drew)); exact HO151.out) hb)
                         have n6_ := Aside0.mk (Kd.V_below (Kd.V_elderB (by (with_reducible repeat (first | apply Kd.V_alloc | apply Kd.V_drewN | apply Kd.V_drew)); exact HO154.out) gb180 (Nat.le_of_eq hg.symm)) hb)
                         have n7_ := Aside0.mk (Kd.V_below (Kd.V_elderB (by (with_reducible repeat (first | apply Kd.V_alloc | apply Kd.V_drewN | apply Kd.V_drew)); exact HO157.out) gb180 (Nat.le_of_eq hg.symm)) hb)
                         have n8_ := Aside0.mk (Kd.V_below (Kd.V_elderB (by (with_reducible repeat (first | apply Kd.V_alloc | apply Kd.V_drewN | apply Kd.V_drew)); exact HO164.out) gb180 (Nat.le_of_eq hg.symm)) hb)
                         have n9_ := Aside0.mk (Kd.R_below (by (with_reducible repeat (first | apply Kd.R_alloc | apply Kd.R_drewN | apply Kd.R_drew)); exact HO169.out) hb)
                         have n10_ := Aside0.mk (Kd.V_below (Kd.V_elderB (by (with_reducible repeat (first | apply Kd.V_alloc | apply Kd.V_drewN | apply Kd.V_drew)); exact HO172.out) gb180 (Nat.le_of_eq hg.symm)) hb)
                         have n11_ := Aside0.mk (Kd.V_below (Kd.V_elderB (by (with_reducible repeat (first | apply Kd.V_alloc | apply Kd.V_drewN | apply Kd.V_drew)); exact HO175.out) gb180 (Nat.le_of_eq hg.symm)) hb)
                         have n12_ := Aside0.mk (blk_below (g := gb138) (o := .cells #[.slice Ao51 t152.length co51, .slice Ao53 t155.length co53, .int .i64 t158, .bool t159] 25 (0, 0)) (by (with_reducible repeat (first | refine blk_drewN ?_ _ | refine blk_drew ?_ | refine blk_alloc ?_ _)); exact BK138.out) hb)
                         have n13_ := Aside0.mk (below_step (by repeat (first | (with_reducible first | exact HB.out | apply below_alloc | apply pw_below_drewN | apply below_drew1 | refine below_set ?_ GE138.out) | exact HB.out)) hb)
                         have n14_ := Aside0.mk (hbox)
                         have n15_ := Aside0.mk ((by rw [hg]; exact (below_size (by repeat (first | (with_reducible first | exact HB.out | apply below_alloc | apply pw_below_drewN | apply below_drew1 | refine below_set ?_ GE138.out) | exact HB.out))) : w.heap.size ≤ gb180))
                         have n16_ := Aside0.mk ((by rw [hg]; exact (below_size (by repeat (first | (with_reducible first | exact HB.out | apply below_alloc | apply pw_below_drewN | apply below_drew1 | refine below_set ?_ GE138.out) | exact HB.out))) : w.heap.size ≤ gb180))
                         have n17_ := Aside0.mk ((by rw [hg]; exact Nat.ne_of_lt (blk_lt (g := gb138) (o := .cells #[.slice Ao51 t152.length co51, .slice Ao53 t155.length co53, .int .i64 t158, .bool t159] 25 (0, 0)) (by (with_reducible repeat (first | refine blk_drewN ?_ _ | refine blk_drew ?_ | refine blk_alloc ?_ _)); exact BK138.out)) : gb138 ≠ gb180))
                         have n18_ := Aside0.mk ((by rw [hg]; exact Nat.ne_of_gt (blk_lt (g := gb138) (o := .cells #[.slice Ao51 t152.length co51, .slice Ao53 t155.length co53, .int .i64 t158, .bool t159] 25 (0, 0)) (by (with_reducible repeat (first | refine blk_drewN ?_ _ | refine blk_drew ?_ | refine blk_alloc ?_ _)); exact BK138.out)) : gb180 ≠ gb138))
                         clear HO126
                         clear HO131
                         clear HO134
                         clear HO141
                         clear HO144
                         clear HO151
                         clear HO154
                         clear HO157
                         clear HO164
                         clear HO169
                         clear HO172
                         clear HO175
                         clear BK138
                         clear HB
                         have HO126 := n0_
                         have HO131 := n1_
                         have HO134 := n2_
                         have HO141 := n3_
                         have HO144 := n4_
                         have HO151 := n5_
                         have HO154 := n6_
                         have HO157 := n7_
                         have HO164 := n8_
                         have HO169 := n9_
                         have HO172 := n10_
                         have HO175 := n11_
                         have BK138 := n12_
                         have HB := n13_
                         have BK180 := n14_
                         have GW180 := n15_
                         have GE180 := n16_
                         have NB138_180 := n17_
                         have NB180_138 := n18_
                         clear n0_ n1_ n2_ n3_ n4_ n5_ n6_ n7_ n8_ n9_ n10_ n11_ n12_ n13_ n14_ n15_ n16_ n17_ n18_
                         clear hb hbox hg
                         refine hK.out _ _ ⟨(blk_cell BK138.out 0).trans rfl, (blk_cell BK138.out 1).trans rfl, (blk_cell BK138.out 2).trans rfl, (blk_cell BK138.out 3).trans rfl⟩ (fun hHeld => ?_)
                         clear hK K
                         refine norm_ (a' := ?_) ?_ ?_
                         rotate_left
                         ·show Act.put _ (some 14) _ = _
                          simp only [Act.put, List.setIfInBounds_toArray, List.set_cons_zero, List.set_cons_succ, i64_w, i32_w]
                          rfl
                         exact norm_ (by simp only [putAll, Act.put, List.setIfInBounds_toArray, List.set_cons_zero, List.set_cons_succ]) (hCont (v168, v171, v174, gb180) _ ⟨hHeld, (by (with_reducible repeat (first | apply Kd.R_alloc | apply Kd.R_drewN | apply Kd.R_drew)); exact Kd.R_mono HO126.out (fun _ hk => ⟨hk.1.2, hk.2⟩)), (by (with_reducible repeat (first | apply Kd.V_alloc | apply Kd.V_drewN | apply Kd.V_drew)); exact Kd.V_mono HO131.out (fun _ hk => ⟨hk.1.1.1.1, ⟨hk.1.1.2, ⟨hk.1.2, ⟨hk.1.1.1.2, hk.2⟩⟩⟩⟩)), (by (with_reducible repeat (first | apply Kd.V_alloc | apply Kd.V_drewN | apply Kd.V_drew)); exact Kd.V_mono HO134.out (fun _ hk => ⟨hk.1.1.1.1, ⟨hk.1.1.2, ⟨hk.1.2, ⟨hk.1.1.1.2, hk.2⟩⟩⟩⟩)), (by (with_reducible repeat (first | apply Kd.V_alloc | apply Kd.V_drewN | apply Kd.V_drew)); exact Kd.V_mono HO141.out (fun _ hk => ⟨hk.1.1.1.1, ⟨hk.1.1.2, ⟨hk.1.2, ⟨hk.1.1.1.2, hk.2⟩⟩⟩⟩)), (by (with_reducible repeat (first | apply Kd.V_alloc | apply Kd.V_drewN | apply Kd.V_drew)); exact Kd.V_mono HO144.out (fun _ hk => ⟨hk.1.1.1.1, ⟨hk.1.1.2, ⟨hk.1.2, ⟨hk.1.1.1.2, hk.2⟩⟩⟩⟩)), (by (with_reducible repeat (first | apply Kd.R_alloc | apply Kd.R_drewN | apply Kd.R_drew)); exact Kd.R_mono HO151.out (fun _ hk => ⟨hk.1.2, hk.2⟩)), (by (with_reducible repeat (first | apply Kd.V_alloc | apply Kd.V_drewN | apply Kd.V_drew)); exact Kd.V_mono HO154.out (fun _ hk => ⟨hk.1.1.1, ⟨hk.1.1.2.1, ⟨hk.1.2, ⟨hk.1.1.2.2, hk.2⟩⟩⟩⟩)), (by (with_reducible repeat (first | apply Kd.V_alloc | apply Kd.V_drewN | apply Kd.V_drew)); exact Kd.V_mono HO157.out (fun _ hk => ⟨hk.1.1.1, ⟨hk.1.1.2.1, ⟨hk.1.2, ⟨hk.1.1.2.2, hk.2⟩⟩⟩⟩)), (by (with_reducible repeat (first | apply Kd.V_alloc | apply Kd.V_drewN | apply Kd.V_drew)); exact Kd.V_mono HO164.out (fun _ hk => ⟨hk.1.1.1, ⟨hk.1.1.2.1, ⟨hk.1.2, ⟨hk.1.1.2.2, hk.2⟩⟩⟩⟩)), (by (with_reducible repeat (first | apply Kd.R_alloc | apply Kd.R_drewN | apply Kd.R_drew)); exact Kd.R_mono HO169.out (fun _ hk => ⟨hk.1.2, hk.2⟩)), (by (with_reducible repeat (first | apply Kd.V_alloc | apply Kd.V_drewN | apply Kd.V_drew)); exact Kd.V_mono HO172.out (fun _ hk => ⟨hk.1.1, ⟨hk.1.2.1, ⟨hk.1.2.2.1, ⟨hk.1.2.2.2, hk.2⟩⟩⟩⟩)), (by (with_reducible repeat (first | apply Kd.V_alloc | apply Kd.V_drewN | apply Kd.V_drew)); exact Kd.V_mono HO175.out (fun _ hk => ⟨hk.1.1, ⟨hk.1.2.1, ⟨hk.1.2.2.1, ⟨hk.1.2.2.2, hk.2⟩⟩⟩⟩)), (by (with_reducible repeat (first | refine blk_drewN ?_ _ | refine blk_drew ?_ | refine blk_alloc ?_ _)); exact BK138.out), (by (with_reducible repeat (first | refine blk_drewN ?_ _ | refine blk_drew ?_ | refine blk_alloc ?_ _)); exact BK180.out), GW180.out, GE180.out, NB138_180.out, NB180_138.out, (by repeat (first | (with_reducible first | exact HB.out | apply below_alloc | apply pw_below_drewN | apply below_drew1 | refine below_set ?_ GE138.out | refine below_set ?_ GE180.out) | exact HB.out))⟩)
                        ·skip
                         refine box_step ?hg (N := 14) ?hd (cs := #[.slice none 0 0, .slice none 0 0, .int .i64 0, .bool false]) (t := 25) ?hr ?_; (case hd => rfl); (case hg => rfl); (case hr => first | (go_simp; done) | (go_simp; rfl))
                         intro gb180 hg w63 hbox hb
                         have n0_ := Aside0.mk (Kd.R_below (by (with_reducible repeat (first | apply Kd.R_alloc | apply Kd.R_drewN | apply Kd.R_drew)); exact HO126.out) hb)
                         have n1_ := Aside0.mk (Kd.V_below (Kd.V_elderB (by (with_reducible repeat (first | apply Kd.V_alloc | apply Kd.V_drewN | apply Kd.V_drew)); exact HO131.out) gb180 (Nat.le_of_eq hg.symm)) hb)
                         have n2_ := Aside0.mk (Kd.V_below (Kd.V_elderB (by (with_reducible repeat (first | apply Kd.V_alloc | apply Kd.V_drewN | apply Kd.V_drew)); exact HO134.out) gb180 (Nat.le_of_eq hg.symm)) hb)
                         have n3_ := Aside0.mk (Kd.V_below (Kd.V_elderB (by (with_reducible repeat (first | apply Kd.V_alloc | apply Kd.V_drewN | apply Kd.V_drew)); exact HO141.out) gb180 (Nat.le_of_eq hg.symm)) hb)
                         have n4_ := Aside0.mk (Kd.V_below (Kd.V_elderB (by (with_reducible repeat (first | apply Kd.V_alloc | apply Kd.V_drewN | apply Kd.V_drew)); exact HO144.out) gb180 (Nat.le_of_eq hg.symm)) hb)
                         have n5_ := Aside0.mk (Kd.R_below (by (with_reducible repeat (first | apply Kd.R_alloc | apply Kd.R_drewN | apply Kd.R_drew)); exact HO151.out) hb)
                         have n6_ := Aside0.mk (Kd.V_below (Kd.V_elderB (by (with_reducible repeat (first | apply Kd.V_alloc | apply Kd.V_drewN | apply Kd.V_drew)); exact HO154.out) gb180 (Nat.le_of_eq hg.symm)) hb)
                         have n7_ := Aside0.mk (Kd.V_below (Kd.V_elderB (by (with_reducible repeat (first | apply Kd.V_alloc | apply Kd.V_drewN | apply Kd.V_drew)); exact HO157.out) gb180 (Nat.le_of_eq hg.symm)) hb)
                         have n8_ := Aside0.mk (Kd.V_below (Kd.V_elderB (by (with_reducible repeat (first | apply Kd.V_alloc | apply Kd.V_drewN | apply Kd.V_drew)); exact HO164.out) gb180 (Nat.le_of_eq hg.symm)) hb)
                         have n9_ := Aside0.mk (Kd.R_below (by (with_reducible repeat (first | apply Kd.R_alloc | apply Kd.R_drewN | apply Kd.R_drew)); exact HO169.out) hb)
                         have n10_ := Aside0.mk (blk_below (g := gb138) (o := .cells #[.slice Ao51 t152.length co51, .slice Ao53 t155.length co53, .int .i64 t158, .bool t159] 25 (0, 0)) (by (with_reducible repeat (first | refine blk_drewN ?_ _ | refine blk_drew ?_ | refine blk_alloc ?_ _)); exact BK138.out) hb)
                         have n11_ := Aside0.mk (below_step (by repeat (first | (with_reducible first | exact HB.out | apply below_alloc | apply pw_below_drewN | apply below_drew1 | refine below_set ?_ GE138.out) | exact HB.out)) hb)
                         have n12_ := Aside0.mk (hbox)
                         have n13_ := Aside0.mk ((by rw [hg]; exact (below_size (by repeat (first | (with_reducible first | exact HB.out | apply below_alloc | apply pw_below_drewN | apply below_drew1 | refine below_set ?_ GE138.out) | exact HB.out))) : w.heap.size ≤ gb180))
                         have n14_ := Aside0.mk ((by rw [hg]; exact (below_size (by repeat (first | (with_reducible first | exact HB.out | apply below_alloc | apply pw_below_drewN | apply below_drew1 | refine below_set ?_ GE138.out) | exact HB.out))) : w.heap.size ≤ gb180))
                         have n15_ := Aside0.mk ((by rw [hg]; exact Nat.ne_of_lt (blk_lt (g := gb138) (o := .cells #[.slice Ao51 t152.length co51, .slice Ao53 t155.length co53, .int .i64 t158, .bool t159] 25 (0, 0)) (by (with_reducible repeat (first | refine blk_drewN ?_ _ | refine blk_drew ?_ | refine blk_alloc ?_ _)); exact BK138.out)) : gb138 ≠ gb180))
                         have n16_ := Aside0.mk ((by rw [hg]; exact Nat.ne_of_gt (blk_lt (g := gb138) (o := .cells #[.slice Ao51 t152.length co51, .slice Ao53 t155.length co53, .int .i64 t158, .bool t159] 25 (0, 0)) (by (with_reducible repeat (first | refine blk_drewN ?_ _ | refine blk_drew ?_ | refine blk_alloc ?_ _)); exact BK138.out)) : gb180 ≠ gb138))
                         clear HO126
                         clear HO131
                         clear HO134
                         clear HO141
                         clear HO144
                         clear HO151
                         clear HO154
                         clear HO157
                         clear HO164
                         clear HO169
                         clear BK138
                         clear HB
                         have HO126 := n0_
                         have HO131 := n1_
                         have HO134 := n2_
                         have HO141 := n3_
                         have HO144 := n4_
                         have HO151 := n5_
                         have HO154 := n6_
                         have HO157 := n7_
                         have HO164 := n8_
                         have HO169 := n9_
                         have BK138 := n10_
                         have HB := n11_
                         have BK180 := n12_
                         have GW180 := n13_
                         have GE180 := n14_
                         have NB138_180 := n15_
                         have NB180_138 := n16_
                         clear n0_ n1_ n2_ n3_ n4_ n5_ n6_ n7_ n8_ n9_ n10_ n11_ n12_ n13_ n14_ n15_ n16_
                         clear hb hbox hg
                         refine hK.out _ _ ⟨(blk_cell BK138.out 0).trans rfl, (blk_cell BK138.out 1).trans rfl, (blk_cell BK138.out 2).trans rfl, (blk_cell BK138.out 3).trans rfl⟩ (fun hHeld => ?_)
                         clear hK K
                         refine norm_ (a' := ?_) ?_ ?_
                         rotate_left
                         ·show Act.put _ (some 14) _ = _
                          simp only [Act.put, List.setIfInBounds_toArray, List.set_cons_zero, List.set_cons_succ, i64_w, i32_w]
                          rfl
                         refine one_ (i := 4) (N := some 65) #[true, true, true, true, true, false, false, false, false, true, false, false, false] rfl rfl (one_of HT_.out (by kernel_rfl)) (by decide) (fun K hK => ?_)
                         refine goes_ Tryd.func11 (by kernel_rfl) rfl #[.agg #[.slice Ao51 t152.length co51, .slice Ao53 t155.length co53, .int .i64 t158, .bool t159], .int .i64 2, .int .i64 5, .int .i64 t160, .string (strOfNums y167)] (by rfl) rfl rfl (by (try simp only [List.map_toArray, List.map_cons, List.map_nil]); first | done | rfl | (simp only [List.length_drop, List.length_take]; rfl)) ?_
                         with_reducible refine (trail_Append.calls _ _ t152 _ _ t155 t158 t159 2 5 t160 (strOfNums y167) t170 t173 t176 t177 t178 t179 _ ?side1 ?side2 ?side3 ?side4 A9.out).mono ?_
                         (case side1 => repeat (first | exact (Kd.V_reads' HO154.out).2.2 | (with_reducible refine Kd.C_alloc ?_ _) | (with_reducible refine Kd.C_drewN ?_ _) | (with_reducible refine Kd.C_drew ?_)))
                         (case side2 => exact (Kd.V_reads' HO154.out).2.1)
                         (case side3 => repeat (first | exact (Kd.V_reads' HO157.out).2.2 | (with_reducible refine Kd.C_alloc ?_ _) | (with_reducible refine Kd.C_drewN ?_ _) | (with_reducible refine Kd.C_drew ?_)))
                         (case side4 => exact (Kd.V_reads' HO157.out).2.1)
                         rintro e w64 ⟨v171, v174, rfl, ho0, ho1, hb⟩
                         refine ⟨_, rfl, ?_⟩
                         have n0_ := Aside0.mk (Kd.R_below (by (with_reducible repeat (first | apply Kd.R_alloc | apply Kd.R_drewN | apply Kd.R_drew)); exact HO126.out) hb)
                         have n1_ := Aside0.mk (Kd.V_below (by (with_reducible repeat (first | apply Kd.V_alloc | apply Kd.V_drewN | apply Kd.V_drew)); exact HO131.out) hb)
                         have n2_ := Aside0.mk (Kd.V_below (by (with_reducible repeat (first | apply Kd.V_alloc | apply Kd.V_drewN | apply Kd.V_drew)); exact HO134.out) hb)
                         have n3_ := Aside0.mk (Kd.V_below (by (with_reducible repeat (first | apply Kd.V_alloc | apply Kd.V_drewN | apply Kd.V_drew)); exact HO141.out) hb)
                         have n4_ := Aside0.mk (Kd.V_below (by (with_reducible repeat (first | apply Kd.V_alloc | apply Kd.V_drewN | apply Kd.V_drew)); exact HO144.out) hb)
                         have n5_ := Aside0.mk (Kd.R_below (by (with_reducible repeat (first | apply Kd.R_alloc | apply Kd.R_drewN | apply Kd.R_drew)); exact HO151.out) hb)
                         have n6_ := Aside0.mk (Kd.V_below (by (with_reducible repeat (first | apply Kd.V_alloc | apply Kd.V_drewN | apply Kd.V_drew)); exact HO154.out) hb)
                         have n7_ := Aside0.mk (Kd.V_below (by (with_reducible repeat (first | apply Kd.V_alloc | apply Kd.V_drewN | apply Kd.V_drew)); exact HO157.out) hb)
                         have n8_ := Aside0.mk (Kd.V_below (by (with_reducible repeat (first | apply Kd.V_alloc | apply Kd.V_drewN | apply Kd.V_drew)); exact HO164.out) hb)
                         have n9_ := Aside0.mk (Kd.R_below (by (with_reducible repeat (first | apply Kd.R_alloc | apply Kd.R_drewN | apply Kd.R_drew)); exact HO169.out) hb)
                         have n10_ := Aside0.mk (Kd.V_lower (Kd.V_mono (ok' := fun k_ => some k_ ≠ (v125 : Value).ownBlock ∧ some k_ ≠ (v150 : Value).ownBlock ∧ some k_ ≠ (v168 : Value).ownBlock ∧ k_ ≠ gb138 ∧ k_ ≠ gb180) ho0 (fun k_ hk_ => ⟨(Kd.fresh' (Kd.R_lt (by (with_reducible repeat (first | apply Kd.R_alloc | apply Kd.R_drewN | apply Kd.R_drew)); exact HO126.out)) k_ hk_), (Kd.fresh' (Kd.R_lt (by (with_reducible repeat (first | apply Kd.R_alloc | apply Kd.R_drewN | apply Kd.R_drew)); exact HO151.out)) k_ hk_), (Kd.fresh' (Kd.R_lt (by (with_reducible repeat (first | apply Kd.R_alloc | apply Kd.R_drewN | apply Kd.R_drew)); exact HO169.out)) k_ hk_), (Kd.freshB (g := gb138) (o := .cells #[.slice Ao51 t152.length co51, .slice Ao53 t155.length co53, .int .i64 t158, .bool t159] 25 (0, 0)) (by (with_reducible repeat (first | refine blk_drewN ?_ _ | refine blk_drew ?_ | refine blk_alloc ?_ _)); exact BK138.out) k_ hk_), (Kd.freshB (g := gb180) (o := .cells #[.slice none 0 0, .slice none 0 0, .int .i64 0, .bool false] 25 (0, 0)) (by (with_reducible repeat (first | refine blk_drewN ?_ _ | refine blk_drew ?_ | refine blk_alloc ?_ _)); exact BK180.out) k_ hk_)⟩)) (below_size (by repeat (first | (with_reducible first | exact HB.out | apply below_alloc | apply pw_below_drewN | apply below_drew1 | refine below_set ?_ GE138.out | refine below_set ?_ GE180.out) | exact HB.out))))
                         have n11_ := Aside0.mk (Kd.V_lower (Kd.V_mono (ok' := fun k_ => some k_ ≠ (v125 : Value).ownBlock ∧ some k_ ≠ (v150 : Value).ownBlock ∧ some k_ ≠ (v168 : Value).ownBlock ∧ k_ ≠ gb138 ∧ k_ ≠ gb180) ho1 (fun k_ hk_ => ⟨(Kd.fresh' (Kd.R_lt (by (with_reducible repeat (first | apply Kd.R_alloc | apply Kd.R_drewN | apply Kd.R_drew)); exact HO126.out)) k_ hk_), (Kd.fresh' (Kd.R_lt (by (with_reducible repeat (first | apply Kd.R_alloc | apply Kd.R_drewN | apply Kd.R_drew)); exact HO151.out)) k_ hk_), (Kd.fresh' (Kd.R_lt (by (with_reducible repeat (first | apply Kd.R_alloc | apply Kd.R_drewN | apply Kd.R_drew)); exact HO169.out)) k_ hk_), (Kd.freshB (g := gb138) (o := .cells #[.slice Ao51 t152.length co51, .slice Ao53 t155.length co53, .int .i64 t158, .bool t159] 25 (0, 0)) (by (with_reducible repeat (first | refine blk_drewN ?_ _ | refine blk_drew ?_ | refine blk_alloc ?_ _)); exact BK138.out) k_ hk_), (Kd.freshB (g := gb180) (o := .cells #[.slice none 0 0, .slice none 0 0, .int .i64 0, .bool false] 25 (0, 0)) (by (with_reducible repeat (first | refine blk_drewN ?_ _ | refine blk_drew ?_ | refine blk_alloc ?_ _)); exact BK180.out) k_ hk_)⟩)) (below_size (by repeat (first | (with_reducible first | exact HB.out | apply below_alloc | apply pw_below_drewN | apply below_drew1 | refine below_set ?_ GE138.out | refine below_set ?_ GE180.out) | exact HB.out))))
                         have n12_ := Aside0.mk (blk_below (g := gb138) (o := .cells #[.slice Ao51 t152.length co51, .slice Ao53 t155.length co53, .int .i64 t158, .bool t159] 25 (0, 0)) (by (with_reducible repeat (first | refine blk_drewN ?_ _ | refine blk_drew ?_ | refine blk_alloc ?_ _)); exact BK138.out) hb)
                         have n13_ := Aside0.mk (blk_below (g := gb180) (o := .cells #[.slice none 0 0, .slice none 0 0, .int .i64 0, .bool false] 25 (0, 0)) (by (with_reducible repeat (first | refine blk_drewN ?_ _ | refine blk_drew ?_ | refine blk_alloc ?_ _)); exact BK180.out) hb)
                         have n14_ := Aside0.mk (below_step (by repeat (first | (with_reducible first | exact HB.out | apply below_alloc | apply pw_below_drewN | apply below_drew1 | refine below_set ?_ GE138.out | refine below_set ?_ GE180.out) | exact HB.out)) hb)
                         clear HO126
                         clear HO131
                         clear HO134
                         clear HO141
                         clear HO144
                         clear HO151
                         clear HO154
                         clear HO157
                         clear HO164
                         clear HO169
                         clear BK138
                         clear BK180
                         clear HB
                         have HO126 := n0_
                         have HO131 := n1_
                         have HO134 := n2_
                         have HO141 := n3_
                         have HO144 := n4_
                         have HO151 := n5_
                         have HO154 := n6_
                         have HO157 := n7_
                         have HO164 := n8_
                         have HO169 := n9_
                         have HO172 := n10_
                         have HO175 := n11_
                         have BK138 := n12_
                         have BK180 := n13_
                         have HB := n14_
                         clear n0_ n1_ n2_ n3_ n4_ n5_ n6_ n7_ n8_ n9_ n10_ n11_ n12_ n13_ n14_
                         (try clear hb)
                         (try clear hb2)
                         (try clear hk)
                         (try clear hi)
                         (try clear ho0)
                         (try clear ho1)
                         refine hK.out _ _ ⟨(blk_cell BK138.out 0).trans rfl, (blk_cell BK138.out 1).trans rfl, (blk_cell BK138.out 2).trans rfl, (blk_cell BK138.out 3).trans rfl⟩ (fun hHeld => ?_)
                         clear hK K
                         refine norm_ (a' := ?_) ?_ ?_
                         rotate_left
                         ·show Act.put _ (some 65) _ = _
                          simp only [Act.put, List.setIfInBounds_toArray, List.set_cons_zero, List.set_cons_succ, i64_w, i32_w]
                          rfl
                         refine pure_ (i := 5) (N := some 60) (v := ?_) (a' := ?_) #[true, true, true, true, true, true, false, false, false, true, false, false, false] rfl rfl (any_of HT_.out (by kernel_rfl)) (fun _ _ _ h => h) (Or.inl ⟨by rfl, ?_⟩) ?_ ?_
                         rotate_left
                         ·intro w'
                          go_simp
                          with_reducible rfl
                         rotate_left
                         ·simp only [Act.put, List.setIfInBounds_toArray, List.set_cons_zero, List.set_cons_succ, i64_w, i32_w]
                          rfl
                         refine pure_ (i := 6) (N := some 66) (v := ?_) (a' := ?_) #[true, true, true, true, true, true, true, false, false, true, false, false, false] rfl rfl (any_of HT_.out (by kernel_rfl)) (fun _ _ _ h => h) (Or.inl ⟨by rfl, ?_⟩) ?_ ?_
                         rotate_left
                         ·intro w'
                          go_simp
                          with_reducible rfl
                         rotate_left
                         ·simp only [Act.put, List.setIfInBounds_toArray, List.set_cons_zero, List.set_cons_succ, i64_w, i32_w]
                          rfl
                         refine pure_ (i := 7) (N := some 67) (v := ?_) (a' := ?_) #[true, true, true, true, true, true, true, true, false, true, false, false, false] rfl rfl (any_of HT_.out (by kernel_rfl)) (fun _ _ _ h => h) (Or.inl ⟨by rfl, ?_⟩) ?_ ?_
                         rotate_left
                         ·intro w'
                          go_simp
                          with_reducible rfl
                         rotate_left
                         ·simp only [Act.put, List.setIfInBounds_toArray, List.set_cons_zero, List.set_cons_succ, i64_w, i32_w]
                          rfl
                         refine pure_ (i := 8) (N := some 68) (v := ?_) (a' := ?_) #[true, true, true, true, true, true, true, true, true, true, false, false, false] rfl rfl (any_of HT_.out (by kernel_rfl)) (fun _ _ _ h => h) (Or.inl ⟨by rfl, ?_⟩) ?_ ?_
                         rotate_left
                         ·intro w'
                          go_simp
                          with_reducible rfl
                         rotate_left
                         ·simp only [Act.put, List.setIfInBounds_toArray, List.set_cons_zero, List.set_cons_succ, i64_w, i32_w]
                          rfl
                         exact norm_ (by simp only [putAll, Act.put, List.setIfInBounds_toArray, List.set_cons_zero, List.set_cons_succ]) (hCont (v168, v171, v174, gb180) _ ⟨hHeld, (by (with_reducible repeat (first | apply Kd.R_alloc | apply Kd.R_drewN | apply Kd.R_drew)); exact Kd.R_mono HO126.out (fun _ hk => ⟨hk.1.2, hk.2⟩)), (by (with_reducible repeat (first | apply Kd.V_alloc | apply Kd.V_drewN | apply Kd.V_drew)); exact Kd.V_mono HO131.out (fun _ hk => ⟨hk.1.1.1.1, ⟨hk.1.1.2, ⟨hk.1.2, ⟨hk.1.1.1.2, hk.2⟩⟩⟩⟩)), (by (with_reducible repeat (first | apply Kd.V_alloc | apply Kd.V_drewN | apply Kd.V_drew)); exact Kd.V_mono HO134.out (fun _ hk => ⟨hk.1.1.1.1, ⟨hk.1.1.2, ⟨hk.1.2, ⟨hk.1.1.1.2, hk.2⟩⟩⟩⟩)), (by (with_reducible repeat (first | apply Kd.V_alloc | apply Kd.V_drewN | apply Kd.V_drew)); exact Kd.V_mono HO141.out (fun _ hk => ⟨hk.1.1.1.1, ⟨hk.1.1.2, ⟨hk.1.2, ⟨hk.1.1.1.2, hk.2⟩⟩⟩⟩)), (by (with_reducible repeat (first | apply Kd.V_alloc | apply Kd.V_drewN | apply Kd.V_drew)); exact Kd.V_mono HO144.out (fun _ hk => ⟨hk.1.1.1.1, ⟨hk.1.1.2, ⟨hk.1.2, ⟨hk.1.1.1.2, hk.2⟩⟩⟩⟩)), (by (with_reducible repeat (first | apply Kd.R_alloc | apply Kd.R_drewN | apply Kd.R_drew)); exact Kd.R_mono HO151.out (fun _ hk => ⟨hk.1.2, hk.2⟩)), (by (with_reducible repeat (first | apply Kd.V_alloc | apply Kd.V_drewN | apply Kd.V_drew)); exact Kd.V_mono HO154.out (fun _ hk => ⟨hk.1.1.1, ⟨hk.1.1.2.1, ⟨hk.1.2, ⟨hk.1.1.2.2, hk.2⟩⟩⟩⟩)), (by (with_reducible repeat (first | apply Kd.V_alloc | apply Kd.V_drewN | apply Kd.V_drew)); exact Kd.V_mono HO157.out (fun _ hk => ⟨hk.1.1.1, ⟨hk.1.1.2.1, ⟨hk.1.2, ⟨hk.1.1.2.2, hk.2⟩⟩⟩⟩)), (by (with_reducible repeat (first | apply Kd.V_alloc | apply Kd.V_drewN | apply Kd.V_drew)); exact Kd.V_mono HO164.out (fun _ hk => ⟨hk.1.1.1, ⟨hk.1.1.2.1, ⟨hk.1.2, ⟨hk.1.1.2.2, hk.2⟩⟩⟩⟩)), (by (with_reducible repeat (first | apply Kd.R_alloc | apply Kd.R_drewN | apply Kd.R_drew)); exact Kd.R_mono HO169.out (fun _ hk => ⟨hk.1.2, hk.2⟩)), (by (with_reducible repeat (first | apply Kd.V_alloc | apply Kd.V_drewN | apply Kd.V_drew)); exact HO172.out), (by (with_reducible repeat (first | apply Kd.V_alloc | apply Kd.V_drewN | apply Kd.V_drew)); exact HO175.out), (by (with_reducible repeat (first | refine blk_drewN ?_ _ | refine blk_drew ?_ | refine blk_alloc ?_ _)); exact BK138.out), (by (with_reducible repeat (first | refine blk_drewN ?_ _ | refine blk_drew ?_ | refine blk_alloc ?_ _)); exact BK180.out), GW180.out, GE180.out, NB138_180.out, NB180_138.out, (by repeat (first | (with_reducible first | exact HB.out | apply below_alloc | apply pw_below_drewN | apply below_drew1 | refine below_set ?_ GE138.out | refine below_set ?_ GE180.out) | exact HB.out))⟩)
                       ·skip
                        refine box_step ?hg (N := 14) ?hd (cs := #[.slice none 0 0, .slice none 0 0, .int .i64 0, .bool false]) (t := 25) ?hr ?_; (case hd => rfl); (case hg => rfl); (case hr => first | (go_simp; done) | (go_simp; rfl))
                        intro gb180 hg w62 hbox hb
                        have n0_ := Aside0.mk (Kd.R_below (by (with_reducible repeat (first | apply Kd.R_alloc | apply Kd.R_drewN | apply Kd.R_drew)); exact HO126.out) hb)
                        have n1_ := Aside0.mk (Kd.V_below (Kd.V_elderB (by (with_reducible repeat (first | apply Kd.V_alloc | apply Kd.V_drewN | apply Kd.V_drew)); exact HO131.out) gb180 (Nat.le_of_eq hg.symm)) hb)
                        have n2_ := Aside0.mk (Kd.V_below (Kd.V_elderB (by (with_reducible repeat (first | apply Kd.V_alloc | apply Kd.V_drewN | apply Kd.V_drew)); exact HO134.out) gb180 (Nat.le_of_eq hg.symm)) hb)
                        have n3_ := Aside0.mk (Kd.V_below (Kd.V_elderB (by (with_reducible repeat (first | apply Kd.V_alloc | apply Kd.V_drewN | apply Kd.V_drew)); exact HO141.out) gb180 (Nat.le_of_eq hg.symm)) hb)
                        have n4_ := Aside0.mk (Kd.V_below (Kd.V_elderB (by (with_reducible repeat (first | apply Kd.V_alloc | apply Kd.V_drewN | apply Kd.V_drew)); exact HO144.out) gb180 (Nat.le_of_eq hg.symm)) hb)
                        have n5_ := Aside0.mk (Kd.R_below (by (with_reducible repeat (first | apply Kd.R_alloc | apply Kd.R_drewN | apply Kd.R_drew)); exact HO151.out) hb)
                        have n6_ := Aside0.mk (Kd.V_below (Kd.V_elderB (by (with_reducible repeat (first | apply Kd.V_alloc | apply Kd.V_drewN | apply Kd.V_drew)); exact HO154.out) gb180 (Nat.le_of_eq hg.symm)) hb)
                        have n7_ := Aside0.mk (Kd.V_below (Kd.V_elderB (by (with_reducible repeat (first | apply Kd.V_alloc | apply Kd.V_drewN | apply Kd.V_drew)); exact HO157.out) gb180 (Nat.le_of_eq hg.symm)) hb)
                        have n8_ := Aside0.mk (Kd.V_below (Kd.V_elderB (by (with_reducible repeat (first | apply Kd.V_alloc | apply Kd.V_drewN | apply Kd.V_drew)); exact HO164.out) gb180 (Nat.le_of_eq hg.symm)) hb)
                        have n9_ := Aside0.mk (Kd.R_below (by (with_reducible repeat (first | apply Kd.R_alloc | apply Kd.R_drewN | apply Kd.R_drew)); exact HO169.out) hb)
                        have n10_ := Aside0.mk (blk_below (g := gb138) (o := .cells #[.slice Ao51 t152.length co51, .slice Ao53 t155.length co53, .int .i64 t158, .bool t159] 25 (0, 0)) (by (with_reducible repeat (first | refine blk_drewN ?_ _ | refine blk_drew ?_ | refine blk_alloc ?_ _)); exact BK138.out) hb)
                        have n11_ := Aside0.mk (below_step (by repeat (first | (with_reducible first | exact HB.out | apply below_alloc | apply pw_below_drewN | apply below_drew1 | refine below_set ?_ GE138.out) | exact HB.out)) hb)
                        have n12_ := Aside0.mk (hbox)
                        have n13_ := Aside0.mk ((by rw [hg]; exact (below_size (by repeat (first | (with_reducible first | exact HB.out | apply below_alloc | apply pw_below_drewN | apply below_drew1 | refine below_set ?_ GE138.out) | exact HB.out))) : w.heap.size ≤ gb180))
                        have n14_ := Aside0.mk ((by rw [hg]; exact (below_size (by repeat (first | (with_reducible first | exact HB.out | apply below_alloc | apply pw_below_drewN | apply below_drew1 | refine below_set ?_ GE138.out) | exact HB.out))) : w.heap.size ≤ gb180))
                        have n15_ := Aside0.mk ((by rw [hg]; exact Nat.ne_of_lt (blk_lt (g := gb138) (o := .cells #[.slice Ao51 t152.length co51, .slice Ao53 t155.length co53, .int .i64 t158, .bool t159] 25 (0, 0)) (by (with_reducible repeat (first | refine blk_drewN ?_ _ | refine blk_drew ?_ | refine blk_alloc ?_ _)); exact BK138.out)) : gb138 ≠ gb180))
                        have n16_ := Aside0.mk ((by rw [hg]; exact Nat.ne_of_gt (blk_lt (g := gb138) (o := .cells #[.slice Ao51 t152.length co51, .slice Ao53 t155.length co53, .int .i64 t158, .bool t159] 25 (0, 0)) (by (with_reducible repeat (first | refine blk_drewN ?_ _ | refine blk_drew ?_ | refine blk_alloc ?_ _)); exact BK138.out)) : gb180 ≠ gb138))
                        clear HO126
                        clear HO131
                        clear HO134
                        clear HO141
                        clear HO144
                        clear HO151
                        clear HO154
                        clear HO157
                        clear HO164
                        clear HO169
                        clear BK138
                        clear HB
                        have HO126 := n0_
                        have HO131 := n1_
                        have HO134 := n2_
                        have HO141 := n3_
                        have HO144 := n4_
                        have HO151 := n5_
                        have HO154 := n6_
                        have HO157 := n7_
                        have HO164 := n8_
                        have HO169 := n9_
                        have BK138 := n10_
                        have HB := n11_
                        have BK180 := n12_
                        have GW180 := n13_
                        have GE180 := n14_
                        have NB138_180 := n15_
                        have NB180_138 := n16_
                        clear n0_ n1_ n2_ n3_ n4_ n5_ n6_ n7_ n8_ n9_ n10_ n11_ n12_ n13_ n14_ n15_ n16_
                        clear hb hbox hg
                        refine hK.out _ _ ⟨(blk_cell BK138.out 0).trans rfl, (blk_cell BK138.out 1).trans rfl, (blk_cell BK138.out 2).trans rfl, (blk_cell BK138.out 3).trans rfl⟩ (fun hHeld => ?_)
                        clear hK K
                        refine norm_ (a' := ?_) ?_ ?_
                        rotate_left
                        ·show Act.put _ (some 14) _ = _
                         simp only [Act.put, List.setIfInBounds_toArray, List.set_cons_zero, List.set_cons_succ, i64_w, i32_w]
                         rfl
                        refine one_ (i := 3) (N := some 64) #[true, true, true, true, false, false, false, false, false, true, false, false, false] rfl rfl (one_of HT_.out (by kernel_rfl)) (by decide) (fun K hK => ?_)
                        have hcv63 := own_string (P := Tryd.prog) Tryd.underlying48 Tryd.underlying5 Tryd.underlying9 (Kd.own_of_R HO169.out)
                        refine value_ (w1 := ?_) (v := ?_) (by rfl) rfl ?_ ?_
                        rotate_left 2
                        ·go_simp
                         constructor
                         ·rfl
                         ·rfl
                        clear hcv63
                        refine hK.out _ _ ⟨(blk_cell BK138.out 0).trans rfl, (blk_cell BK138.out 1).trans rfl, (blk_cell BK138.out 2).trans rfl, (blk_cell BK138.out 3).trans rfl⟩ (fun hHeld => ?_)
                        clear hK K
                        refine norm_ (a' := ?_) ?_ ?_
                        rotate_left
                        ·show Act.put _ (some 64) _ = _
                         simp only [Act.put, List.setIfInBounds_toArray, List.set_cons_zero, List.set_cons_succ, i64_w, i32_w]
                         rfl
                        refine one_ (i := 4) (N := some 65) #[true, true, true, true, true, false, false, false, false, true, false, false, false] rfl rfl (one_of HT_.out (by kernel_rfl)) (by decide) (fun K hK => ?_)
                        refine goes_ Tryd.func11 (by kernel_rfl) rfl #[.agg #[.slice Ao51 t152.length co51, .slice Ao53 t155.length co53, .int .i64 t158, .bool t159], .int .i64 2, .int .i64 5, .int .i64 t160, .string (strOfNums y167)] (by rfl) rfl rfl (by (try simp only [List.map_toArray, List.map_cons, List.map_nil]); first | done | rfl | (simp only [List.length_drop, List.length_take]; rfl)) ?_
                        with_reducible refine (trail_Append.calls _ _ t152 _ _ t155 t158 t159 2 5 t160 (strOfNums y167) t170 t173 t176 t177 t178 t179 _ ?side1 ?side2 ?side3 ?side4 A9.out).mono ?_
                        (case side1 => repeat (first | exact (Kd.V_reads' HO154.out).2.2 | (with_reducible refine Kd.C_alloc ?_ _) | (with_reducible refine Kd.C_drewN ?_ _) | (with_reducible refine Kd.C_drew ?_)))
                        (case side2 => exact (Kd.V_reads' HO154.out).2.1)
                        (case side3 => repeat (first | exact (Kd.V_reads' HO157.out).2.2 | (with_reducible refine Kd.C_alloc ?_ _) | (with_reducible refine Kd.C_drewN ?_ _) | (with_reducible refine Kd.C_drew ?_)))
                        (case side4 => exact (Kd.V_reads' HO157.out).2.1)
                        rintro e w64 ⟨v171, v174, rfl, ho0, ho1, hb⟩
                        refine ⟨_, rfl, ?_⟩
                        have n0_ := Aside0.mk (Kd.R_below (by (with_reducible repeat (first | apply Kd.R_alloc | apply Kd.R_drewN | apply Kd.R_drew)); exact HO126.out) hb)
                        have n1_ := Aside0.mk (Kd.V_below (by (with_reducible repeat (first | apply Kd.V_alloc | apply Kd.V_drewN | apply Kd.V_drew)); exact HO131.out) hb)
                        have n2_ := Aside0.mk (Kd.V_below (by (with_reducible repeat (first | apply Kd.V_alloc | apply Kd.V_drewN | apply Kd.V_drew)); exact HO134.out) hb)
                        have n3_ := Aside0.mk (Kd.V_below (by (with_reducible repeat (first | apply Kd.V_alloc | apply Kd.V_drewN | apply Kd.V_drew)); exact HO141.out) hb)
                        have n4_ := Aside0.mk (Kd.V_below (by (with_reducible repeat (first | apply Kd.V_alloc | apply Kd.V_drewN | apply Kd.V_drew)); exact HO144.out) hb)
                        have n5_ := Aside0.mk (Kd.R_below (by (with_reducible repeat (first | apply Kd.R_alloc | apply Kd.R_drewN | apply Kd.R_drew)); exact HO151.out) hb)
                        have n6_ := Aside0.mk (Kd.V_below (by (with_reducible repeat (first | apply Kd.V_alloc | apply Kd.V_drewN | apply Kd.V_drew)); exact HO154.out) hb)
                        have n7_ := Aside0.mk (Kd.V_below (by (with_reducible repeat (first | apply Kd.V_alloc | apply Kd.V_drewN | apply Kd.V_drew)); exact HO157.out) hb)
                        have n8_ := Aside0.mk (Kd.V_below (by (with_reducible repeat (first | apply Kd.V_alloc | apply Kd.V_drewN | apply Kd.V_drew)); exact HO164.out) hb)
                        have n9_ := Aside0.mk (Kd.R_below (by (with_reducible repeat (first | apply Kd.R_alloc | apply Kd.R_drewN | apply Kd.R_drew)); exact HO169.out) hb)
                        have n10_ := Aside0.mk (Kd.V_lower (Kd.V_mono (ok' := fun k_ => some k_ ≠ (v125 : Value).ownBlock ∧ some k_ ≠ (v150 : Value).ownBlock ∧ some k_ ≠ (v168 : Value).ownBlock ∧ k_ ≠ gb138 ∧ k_ ≠ gb180) ho0 (fun k_ hk_ => ⟨(Kd.fresh' (Kd.R_lt (by (with_reducible repeat (first | apply Kd.R_alloc | apply Kd.R_drewN | apply Kd.R_drew)); exact HO126.out)) k_ hk_), (Kd.fresh' (Kd.R_lt (by (with_reducible repeat (first | apply Kd.R_alloc | apply Kd.R_drewN | apply Kd.R_drew)); exact HO151.out)) k_ hk_), (Kd.fresh' (Kd.R_lt (by (with_reducible repeat (first | apply Kd.R_alloc | apply Kd.R_drewN | apply Kd.R_drew)); exact HO169.out)) k_ hk_), (Kd.freshB (g := gb138) (o := .cells #[.slice Ao51 t152.length co51, .slice Ao53 t155.length co53, .int .i64 t158, .bool t159] 25 (0, 0)) (by (with_reducible repeat (first | refine blk_drewN ?_ _ | refine blk_drew ?_ | refine blk_alloc ?_ _)); exact BK138.out) k_ hk_), (Kd.freshB (g := gb180) (o := .cells #[.slice none 0 0, .slice none 0 0, .int .i64 0, .bool false] 25 (0, 0)) (by (with_reducible repeat (first | refine blk_drewN ?_ _ | refine blk_drew ?_ | refine blk_alloc ?_ _)); exact BK180.out) k_ hk_)⟩)) (below_size (by repeat (first | (with_reducible first | exact HB.out | apply below_alloc | apply pw_below_drewN | apply below_drew1 | refine below_set ?_ GE138.out | refine below_set ?_ GE180.out) | exact HB.out))))
                        have n11_ := Aside0.mk (Kd.V_lower (Kd.V_mono (ok' := fun k_ => some k_ ≠ (v125 : Value).ownBlock ∧ some k_ ≠ (v150 : Value).ownBlock ∧ some k_ ≠ (v168 : Value).ownBlock ∧ k_ ≠ gb138 ∧ k_ ≠ gb180) ho1 (fun k_ hk_ => ⟨(Kd.fresh' (Kd.R_lt (by (with_reducible repeat (first | apply Kd.R_alloc | apply Kd.R_drewN | apply Kd.R_drew)); exact HO126.out)) k_ hk_), (Kd.fresh' (Kd.R_lt (by (with_reducible repeat (first | apply Kd.R_alloc | apply Kd.R_drewN | apply Kd.R_drew)); exact HO151.out)) k_ hk_), (Kd.fresh' (Kd.R_lt (by (with_reducible repeat (first | apply Kd.R_alloc | apply Kd.R_drewN | apply Kd.R_drew)); exact HO169.out)) k_ hk_), (Kd.freshB (g := gb138) (o := .cells #[.slice Ao51 t152.length co51, .slice Ao53 t155.length co53, .int .i64 t158, .bool t159] 25 (0, 0)) (by (with_reducible repeat (first | refine blk_drewN ?_ _ | refine blk_drew ?_ | refine blk_alloc ?_ _)); exact BK138.out) k_ hk_), (Kd.freshB (g := gb180) (o := .cells #[.slice none 0 0, .slice none 0 0, .int .i64 0, .bool false] 25 (0, 0)) (by (with_reducible repeat (first | refine blk_drewN ?_ _ | refine blk_drew ?_ | refine blk_alloc ?_ _)); exact BK180.out) k_ hk_)⟩)) (below_size (by repeat (first | (with_reducible first | exact HB.out | apply below_alloc | apply pw_below_drewN | apply below_drew1 | refine below_set ?_ GE138.out | refine below_set ?_ GE180.out) | exact HB.out))))
                        have n12_ := Aside0.mk (blk_below (g := gb138) (o := .cells #[.slice Ao51 t152.length co51, .slice Ao53 t155.length co53, .int .i64 t158, .bool t159] 25 (0, 0)) (by (with_reducible repeat (first | refine blk_drewN ?_ _ | refine blk_drew ?_ | refine blk_alloc ?_ _)); exact BK138.out) hb)
                        have n13_ := Aside0.mk (blk_below (g := gb180) (o := .cells #[.slice none 0 0, .slice none 0 0, .int .i64 0, .bool false] 25 (0, 0)) (by (with_reducible repeat (first | refine blk_drewN ?_ _ | refine blk_drew ?_ | refine blk_alloc ?_ _)); exact BK180.out) hb)
                        have n14_ := Aside0.mk (below_step (by repeat (first | (with_reducible first | exact HB.out | apply below_alloc | apply pw_below_drewN | apply below_drew1 | refine below_set ?_ GE138.out | refine below_set ?_ GE180.out) | exact HB.out)) hb)
                        clear HO126
                        clear HO131
                        clear HO134
                        clear HO141
                        clear HO144
                        clear HO151
                        clear HO154
                        clear HO157
                        clear HO164
                        clear HO169
                        clear BK138
                        clear BK180
                        clear HB
                        have HO126 := n0_
                        have HO131 := n1_
                        have HO134 := n2_
                        have HO141 := n3_
                        have HO144 := n4_
                        have HO151 := n5_
                        have HO154 := n6_
                        have HO157 := n7_
                        have HO164 := n8_
                        have HO169 := n9_
                        have HO172 := n10_
                        have HO175 := n11_
                        have BK138 := n12_
                        have BK180 := n13_
                        have HB := n14_
                        clear n0_ n1_ n2_ n3_ n4_ n5_ n6_ n7_ n8_ n9_ n10_ n11_ n12_ n13_ n14_
                        (try clear hb)
                        (try clear hb2)
                        (try clear hk)
                        (try clear hi)
                        (try clear ho0)
                        (try clear ho1)
                        refine hK.out _ _ ⟨(blk_cell BK138.out 0).trans rfl, (blk_cell BK138.out 1).trans rfl, (blk_cell BK138.out 2).trans rfl, (blk_cell BK138.out 3).trans rfl⟩ (fun hHeld => ?_)
                        clear hK K
                        refine norm_ (a' := ?_) ?_ ?_
                        rotate_left
                        ·show Act.put _ (some 65) _ = _
                         simp only [Act.put, List.setIfInBounds_toArray, List.set_cons_zero, List.set_cons_succ, i64_w, i32_w]
                         rfl
                        refine pure_ (i := 5) (N := some 60) (v := ?_) (a' := ?_) #[true, true, true, true, true, true, false, false, false, true, false, false, false] rfl rfl (any_of HT_.out (by kernel_rfl)) (fun _ _ _ h => h) (Or.inl ⟨by rfl, ?_⟩) ?_ ?_
                        rotate_left
                        ·intro w'
                         go_simp
                         with_reducible rfl
                        rotate_left
                        ·simp only [Act.put, List.setIfInBounds_toArray, List.set_cons_zero, List.set_cons_succ, i64_w, i32_w]
                         rfl
                        refine pure_ (i := 6) (N := some 66) (v := ?_) (a' := ?_) #[true, true, true, true, true, true, true, false, false, true, false, false, false] rfl rfl (any_of HT_.out (by kernel_rfl)) (fun _ _ _ h => h) (Or.inl ⟨by rfl, ?_⟩) ?_ ?_
                        rotate_left
                        ·intro w'
                         go_simp
                         with_reducible rfl
                        rotate_left
                        ·simp only [Act.put, List.setIfInBounds_toArray, List.set_cons_zero, List.set_cons_succ, i64_w, i32_w]
                         rfl
                        refine pure_ (i := 7) (N := some 67) (v := ?_) (a' := ?_) #[true, true, true, true, true, true, true, true, false, true, false, false, false] rfl rfl (any_of HT_.out (by kernel_rfl)) (fun _ _ _ h => h) (Or.inl ⟨by rfl, ?_⟩) ?_ ?_
                        rotate_left
                        ·intro w'
                         go_simp
                         with_reducible rfl
                        rotate_left
                        ·simp only [Act.put, List.setIfInBounds_toArray, List.set_cons_zero, List.set_cons_succ, i64_w, i32_w]
                         rfl
                        refine pure_ (i := 8) (N := some 68) (v := ?_) (a' := ?_) #[true, true, true, true, true, true, true, true, true, true, false, false, false] rfl rfl (any_of HT_.out (by kernel_rfl)) (fun _ _ _ h => h) (Or.inl ⟨by rfl, ?_⟩) ?_ ?_
                        rotate_left
                        ·intro w'
                         go_simp
                         with_reducible rfl
                        rotate_left
                        ·simp only [Act.put, List.setIfInBounds_toArray, List.set_cons_zero, List.set_cons_succ, i64_w, i32_w]
                         rfl
                        exact norm_ (by simp only [putAll, Act.put, List.setIfInBounds_toArray, List.set_cons_zero, List.set_cons_succ]) (hCont (v168, v171, v174, gb180) _ ⟨hHeld, (by (with_reducible repeat (first | apply Kd.R_alloc | apply Kd.R_drewN | apply Kd.R_drew)); exact Kd.R_mono HO126.out (fun _ hk => ⟨hk.1.2, hk.2⟩)), (by (with_reducible repeat (first | apply Kd.V_alloc | apply Kd.V_drewN | apply Kd.V_drew)); exact Kd.V_mono HO131.out (fun _ hk => ⟨hk.1.1.1.1, ⟨hk.1.1.2, ⟨hk.1.2, ⟨hk.1.1.1.2, hk.2⟩⟩⟩⟩)), (by (with_reducible repeat (first | apply Kd.V_alloc | apply Kd.V_drewN | apply Kd.V_drew)); exact Kd.V_mono HO134.out (fun _ hk => ⟨hk.1.1.1.1, ⟨hk.1.1.2, ⟨hk.1.2, ⟨hk.1.1.1.2, hk.2⟩⟩⟩⟩)), (by (with_reducible repeat (first | apply Kd.V_alloc | apply Kd.V_drewN | apply Kd.V_drew)); exact Kd.V_mono HO141.out (fun _ hk => ⟨hk.1.1.1.1, ⟨hk.1.1.2, ⟨hk.1.2, ⟨hk.1.1.1.2, hk.2⟩⟩⟩⟩)), (by (with_reducible repeat (first | apply Kd.V_alloc | apply Kd.V_drewN | apply Kd.V_drew)); exact Kd.V_mono HO144.out (fun _ hk => ⟨hk.1.1.1.1, ⟨hk.1.1.2, ⟨hk.1.2, ⟨hk.1.1.1.2, hk.2⟩⟩⟩⟩)), (by (with_reducible repeat (first | apply Kd.R_alloc | apply Kd.R_drewN | apply Kd.R_drew)); exact Kd.R_mono HO151.out (fun _ hk => ⟨hk.1.2, hk.2⟩)), (by (with_reducible repeat (first | apply Kd.V_alloc | apply Kd.V_drewN | apply Kd.V_drew)); exact Kd.V_mono HO154.out (fun _ hk => ⟨hk.1.1.1, ⟨hk.1.1.2.1, ⟨hk.1.2, ⟨hk.1.1.2.2, hk.2⟩⟩⟩⟩)), (by (with_reducible repeat (first | apply Kd.V_alloc | apply Kd.V_drewN | apply Kd.V_drew)); exact Kd.V_mono HO157.out (fun _ hk => ⟨hk.1.1.1, ⟨hk.1.1.2.1, ⟨hk.1.2, ⟨hk.1.1.2.2, hk.2⟩⟩⟩⟩)), (by (with_reducible repeat (first | apply Kd.V_alloc | apply Kd.V_drewN | apply Kd.V_drew)); exact Kd.V_mono HO164.out (fun _ hk => ⟨hk.1.1.1, ⟨hk.1.1.2.1, ⟨hk.1.2, ⟨hk.1.1.2.2, hk.2⟩⟩⟩⟩)), (by (with_reducible repeat (first | apply Kd.R_alloc | apply Kd.R_drewN | apply Kd.R_drew)); exact Kd.R_mono HO169.out (fun _ hk => ⟨hk.1.2, hk.2⟩)), (by (with_reducible repeat (first | apply Kd.V_alloc | apply Kd.V_drewN | apply Kd.V_drew)); exact HO172.out), (by (with_reducible repeat (first | apply Kd.V_alloc | apply Kd.V_drewN | apply Kd.V_drew)); exact HO175.out), (by (with_reducible repeat (first | refine blk_drewN ?_ _ | refine blk_drew ?_ | refine blk_alloc ?_ _)); exact BK138.out), (by (with_reducible repeat (first | refine blk_drewN ?_ _ | refine blk_drew ?_ | refine blk_alloc ?_ _)); exact BK180.out), GW180.out, GE180.out, NB138_180.out, NB180_138.out, (by repeat (first | (with_reducible first | exact HB.out | apply below_alloc | apply pw_below_drewN | apply below_drew1 | refine below_set ?_ GE138.out | refine below_set ?_ GE180.out) | exact HB.out))⟩)
                      ·skip
                       refine box_step ?hg (N := 14) ?hd (cs := #[.slice none 0 0, .slice none 0 0, .int .i64 0, .bool false]) (t := 25) ?hr ?_; (case hd => rfl); (case hg => rfl); (case hr => first | (go_simp; done) | (go_simp; rfl))
                       intro gb180 hg w60 hbox hb
                       have n0_ := Aside0.mk (Kd.R_below (by (with_reducible repeat (first | apply Kd.R_alloc | apply Kd.R_drewN | apply Kd.R_drew)); exact HO126.out) hb)
                       have n1_ := Aside0.mk (Kd.V_below (Kd.V_elderB (by (with_reducible repeat (first | apply Kd.V_alloc | apply Kd.V_drewN | apply Kd.V_drew)); exact HO131.out) gb180 (Nat.le_of_eq hg.symm)) hb)
                       have n2_ := Aside0.mk (Kd.V_below (Kd.V_elderB (by (with_reducible repeat (first | apply Kd.V_alloc | apply Kd.V_drewN | apply Kd.V_drew)); exact HO134.out) gb180 (Nat.le_of_eq hg.symm)) hb)
                       have n3_ := Aside0.mk (Kd.V_below (Kd.V_elderB (by (with_reducible repeat (first | apply Kd.V_alloc | apply Kd.V_drewN | apply Kd.V_drew)); exact HO141.out) gb180 (Nat.le_of_eq hg.symm)) hb)
                       have n4_ := Aside0.mk (Kd.V_below (Kd.V_elderB (by (with_reducible repeat (first | apply Kd.V_alloc | apply Kd.V_drewN | apply Kd.V_drew)); exact HO144.out) gb180 (Nat.le_of_eq hg.symm)) hb)
                       have n5_ := Aside0.mk (Kd.R_below (by (with_reducible repeat (first | apply Kd.R_alloc | apply Kd.R_drewN | apply Kd.R_drew)); exact HO151.out) hb)
                       have n6_ := Aside0.mk (Kd.V_below (Kd.V_elderB (by (with_reducible repeat (first | apply Kd.V_alloc | apply Kd.V_drewN | apply Kd.V_drew)); exact HO154.out) gb180 (Nat.le_of_eq hg.symm)) hb)
                       have n7_ := Aside0.mk (Kd.V_below (Kd.V_elderB (by (with_reducible repeat (first | apply Kd.V_alloc | apply Kd.V_drewN | apply Kd.V_drew)); exact HO157.out) gb180 (Nat.le_of_eq hg.symm)) hb)
                       have n8_ := Aside0.mk (Kd.V_below (Kd.V_elderB (by (with_reducible repeat (first | apply Kd.V_alloc | apply Kd.V_drewN | apply Kd.V_drew)); exact HO164.out) gb180 (Nat.le_of_eq hg.symm)) hb)
                       have n9_ := Aside0.mk (blk_below (g := gb138) (o := .cells #[.slice Ao51 t152.length co51, .slice Ao53 t155.length co53, .int .i64 t158, .bool t159] 25 (0, 0)) (by (with_reducible repeat (first | refine blk_drewN ?_ _ | refine blk_drew ?_ | refine blk_alloc ?_ _)); exact BK138.out) hb)
                       have n10_ := Aside0.mk (below_step (by repeat (first | (with_reducible first | exact HB.out | apply below_alloc | apply pw_below_drewN | apply below_drew1 | refine below_set ?_ GE138.out) | exact HB.out)) hb)
                       have n11_ := Aside0.mk (hbox)
                       have n12_ := Aside0.mk ((by rw [hg]; exact (below_size (by repeat (first | (with_reducible first | exact HB.out | apply below_alloc | apply pw_below_drewN | apply below_drew1 | refine below_set ?_ GE138.out) | exact HB.out))) : w.heap.size ≤ gb180))
                       have n13_ := Aside0.mk ((by rw [hg]; exact (below_size (by repeat (first | (with_reducible first | exact HB.out | apply below_alloc | apply pw_below_drewN | apply below_drew1 | refine below_set ?_ GE138.out) | exact HB.out))) : w.heap.size ≤ gb180))
                       have n14_ := Aside0.mk ((by rw [hg]; exact Nat.ne_of_lt (blk_lt (g := gb138) (o := .cells #[.slice Ao51 t152.length co51, .slice Ao53 t155.length co53, .int .i64 t158, .bool t159] 25 (0, 0)) (by (with_reducible repeat (first | refine blk_drewN ?_ _ | refine blk_drew ?_ | refine blk_alloc ?_ _)); exact BK138.out)) : gb138 ≠ gb180))
                       have n15_ := Aside0.mk ((by rw [hg]; exact Nat.ne_of_gt (blk_lt (g := gb138) (o := .cells #[.slice Ao51 t152.length co51, .slice Ao53 t155.length co53, .int .i64 t158, .bool t159] 25 (0, 0)) (by (with_reducible repeat (first | refine blk_drewN ?_ _ | refine blk_drew ?_ | refine blk_alloc ?_ _)); exact BK138.out)) : gb180 ≠ gb138))
                       clear HO126
                       clear HO131
                       clear HO134
                       clear HO141
                       clear HO144
                       clear HO151
                       clear HO154
                       clear HO157
                       clear HO164
                       clear BK138
                       clear HB
                       have HO126 := n0_
                       have HO131 := n1_
                       have HO134 := n2_
                       have HO141 := n3_
                       have HO144 := n4_
                       have HO151 := n5_
                       have HO154 := n6_
                       have HO157 := n7_
                       have HO164 := n8_
                       have BK138 := n9_
                       have HB := n10_
                       have BK180 := n11_
                       have GW180 := n12_
                       have GE180 := n13_
                       have NB138_180 := n14_
                       have NB180_138 := n15_
                       clear n0_ n1_ n2_ n3_ n4_ n5_ n6_ n7_ n8_ n9_ n10_ n11_ n12_ n13_ n14_ n15_
                       clear hb hbox hg
                       refine hK.out _ _ ⟨(blk_cell BK138.out 0).trans rfl, (blk_cell BK138.out 1).trans rfl, (blk_cell BK138.out 2).trans rfl, (blk_cell BK138.out 3).trans rfl⟩ (fun hHeld => ?_)
                       clear hK K
                       refine norm_ (a' := ?_) ?_ ?_
                       rotate_left
                       ·show Act.put _ (some 14) _ = _
                        simp only [Act.put, List.setIfInBounds_toArray, List.set_cons_zero, List.set_cons_succ, i64_w, i32_w]
                        rfl
                       refine one_ (i := 2) (N := some 63) #[true, true, true, false, false, false, false, false, false, true, false, false, false] rfl rfl (one_of HT_.out (by kernel_rfl)) (by decide) (fun K hK => ?_)
                       refine Kd.R_make_step (Kd.int .u8) _ 5 (by rfl) (N := 63) rfl 48 _ _ rfl 150 rfl rfl Tryd.underlying48 (.int .u8 0) 1 info5 rfl (by decide) (by omega) 0 (ok := fun _ => True) (okp := fun _ => True) rfl (fun _ hk => hk) trivial (by omega) (by omega) (Below.refl _ _) (Nat.le_refl _) ?_
                       intro v168 w61 ho62 hb hg_ hnew_
                       clear hg_ hnew_
                       (first | rw [← Ny167.out] at ho62 | (simp only [Int.reduceToNat] at ho62; rw [← Ny167.out] at ho62))
                       have n0_ := Aside0.mk (Kd.R_elder' (by (with_reducible repeat (first | apply Kd.R_alloc | apply Kd.R_drewN | apply Kd.R_drew)); exact HO126.out) (Kd.R_base ho62) hb)
                       have n1_ := Aside0.mk (Kd.V_elder' (by (with_reducible repeat (first | apply Kd.V_alloc | apply Kd.V_drewN | apply Kd.V_drew)); exact HO131.out) (Kd.R_base ho62) hb)
                       have n2_ := Aside0.mk (Kd.V_elder' (by (with_reducible repeat (first | apply Kd.V_alloc | apply Kd.V_drewN | apply Kd.V_drew)); exact HO134.out) (Kd.R_base ho62) hb)
                       have n3_ := Aside0.mk (Kd.V_elder' (by (with_reducible repeat (first | apply Kd.V_alloc | apply Kd.V_drewN | apply Kd.V_drew)); exact HO141.out) (Kd.R_base ho62) hb)
                       have n4_ := Aside0.mk (Kd.V_elder' (by (with_reducible repeat (first | apply Kd.V_alloc | apply Kd.V_drewN | apply Kd.V_drew)); exact HO144.out) (Kd.R_base ho62) hb)
                       have n5_ := Aside0.mk (Kd.R_elder' (by (with_reducible repeat (first | apply Kd.R_alloc | apply Kd.R_drewN | apply Kd.R_drew)); exact HO151.out) (Kd.R_base ho62) hb)
                       have n6_ := Aside0.mk (Kd.V_elder' (by (with_reducible repeat (first | apply Kd.V_alloc | apply Kd.V_drewN | apply Kd.V_drew)); exact HO154.out) (Kd.R_base ho62) hb)
                       have n7_ := Aside0.mk (Kd.V_elder' (by (with_reducible repeat (first | apply Kd.V_alloc | apply Kd.V_drewN | apply Kd.V_drew)); exact HO157.out) (Kd.R_base ho62) hb)
                       have n8_ := Aside0.mk (Kd.V_elder' (by (with_reducible repeat (first | apply Kd.V_alloc | apply Kd.V_drewN | apply Kd.V_drew)); exact HO164.out) (Kd.R_base ho62) hb)
                       have n9_ := Aside0.mk (Kd.R_lower (Kd.R_new' (Kd.R_new' ho62 (Kd.R_lt (by (with_reducible repeat (first | apply Kd.R_alloc | apply Kd.R_drewN | apply Kd.R_drew)); exact HO126.out))) (Kd.R_lt (by (with_reducible repeat (first | apply Kd.R_alloc | apply Kd.R_drewN | apply Kd.R_drew)); exact HO151.out))) (below_size (by repeat (first | (with_reducible first | exact HB.out | apply below_alloc | apply pw_below_drewN | apply below_drew1 | refine below_set ?_ GE138.out | refine below_set ?_ GE180.out) | exact HB.out))))
                       have n10_ := Aside0.mk (blk_below (g := gb138) (o := .cells #[.slice Ao51 t152.length co51, .slice Ao53 t155.length co53, .int .i64 t158, .bool t159] 25 (0, 0)) (by (with_reducible repeat (first | refine blk_drewN ?_ _ | refine blk_drew ?_ | refine blk_alloc ?_ _)); exact BK138.out) hb)
                       have n11_ := Aside0.mk (blk_below (g := gb180) (o := .cells #[.slice none 0 0, .slice none 0 0, .int .i64 0, .bool false] 25 (0, 0)) (by (with_reducible repeat (first | refine blk_drewN ?_ _ | refine blk_drew ?_ | refine blk_alloc ?_ _)); exact BK180.out) hb)
                       have n12_ := Aside0.mk (below_step (by repeat (first | (with_reducible first | exact HB.out | apply below_alloc | apply pw_below_drewN | apply below_drew1 | refine below_set ?_ GE138.out | refine below_set ?_ GE180.out) | exact HB.out)) hb)
                       clear HO126
                       clear HO131
                       clear HO134
                       clear HO141
                       clear HO144
                       clear HO151
                       clear HO154
                       clear HO157
                       clear HO164
                       clear BK138
                       clear BK180
                       clear HB
                       have HO126 := n0_
                       have HO131 := n1_
                       have HO134 := n2_
                       have HO141 := n3_
                       have HO144 := n4_
                       have HO151 := n5_
                       have HO154 := n6_
                       have HO157 := n7_
                       have HO164 := n8_
                       have HO169 := n9_
                       have BK138 := n10_
                       have BK180 := n11_
                       have HB := n12_
                       clear n0_ n1_ n2_ n3_ n4_ n5_ n6_ n7_ n8_ n9_ n10_ n11_ n12_
                       clear hb ho62
                       refine hK.out _ _ ⟨(blk_cell BK138.out 0).trans rfl, (blk_cell BK138.out 1).trans rfl, (blk_cell BK138.out 2).trans rfl, (blk_cell BK138.out 3).trans rfl⟩ (fun hHeld => ?_)
                       clear hK K
                       refine norm_ (a' := ?_) ?_ ?_
                       rotate_left
                       ·show Act.put _ (some 63) _ = _
                        simp only [Act.put, List.setIfInBounds_toArray, List.set_cons_zero, List.set_cons_succ, i64_w, i32_w]
                        rfl
                       refine one_ (i := 3) (N := some 64) #[true, true, true, true, false, false, false, false, false, true, false, false, false] rfl rfl (one_of HT_.out (by kernel_rfl)) (by decide) (fun K hK => ?_)
                       have hcv63 := own_string (P := Tryd.prog) Tryd.underlying48 Tryd.underlying5 Tryd.underlying9 (Kd.own_of_R HO169.out)
                       refine value_ (w1 := ?_) (v := ?_) (by rfl) rfl ?_ ?_
                       rotate_left 2
                       ·go_simp
                        constructor
                        ·rfl
                        ·rfl
                       clear hcv63
                       refine hK.out _ _ ⟨(blk_cell BK138.out 0).trans rfl, (blk_cell BK138.out 1).trans rfl, (blk_cell BK138.out 2).trans rfl, (blk_cell BK138.out 3).trans rfl⟩ (fun hHeld => ?_)
                       clear hK K
                       refine norm_ (a' := ?_) ?_ ?_
                       rotate_left
                       ·show Act.put _ (some 64) _ = _
                        simp only [Act.put, List.setIfInBounds_toArray, List.set_cons_zero, List.set_cons_succ, i64_w, i32_w]
                        rfl
                       refine one_ (i := 4) (N := some 65) #[true, true, true, true, true, false, false, false, false, true, false, false, false] rfl rfl (one_of HT_.out (by kernel_rfl)) (by decide) (fun K hK => ?_)
                       refine goes_ Tryd.func11 (by kernel_rfl) rfl #[.agg #[.slice Ao51 t152.length co51, .slice Ao53 t155.length co53, .int .i64 t158, .bool t159], .int .i64 2, .int .i64 5, .int .i64 t160, .string (strOfNums y167)] (by rfl) rfl rfl (by (try simp only [List.map_toArray, List.map_cons, List.map_nil]); first | done | rfl | (simp only [List.length_drop, List.length_take]; rfl)) ?_
                       with_reducible refine (trail_Append.calls _ _ t152 _ _ t155 t158 t159 2 5 t160 (strOfNums y167) t170 t173 t176 t177 t178 t179 _ ?side1 ?side2 ?side3 ?side4 A9.out).mono ?_
                       (case side1 => repeat (first | exact (Kd.V_reads' HO154.out).2.2 | (with_reducible refine Kd.C_alloc ?_ _) | (with_reducible refine Kd.C_drewN ?_ _) | (with_reducible refine Kd.C_drew ?_)))
                       (case side2 => exact (Kd.V_reads' HO154.out).2.1)
                       (case side3 => repeat (first | exact (Kd.V_reads' HO157.out).2.2 | (with_reducible refine Kd.C_alloc ?_ _) | (with_reducible refine Kd.C_drewN ?_ _) | (with_reducible refine Kd.C_drew ?_)))
                       (case side4 => exact (Kd.V_reads' HO157.out).2.1)
                       rintro e w64 ⟨v171, v174, rfl, ho0, ho1, hb⟩
                       refine ⟨_, rfl, ?_⟩
                       have n0_ := Aside0.mk (Kd.R_below (by (with_reducible repeat (first | apply Kd.R_alloc | apply Kd.R_drewN | apply Kd.R_drew)); exact HO126.out) hb)
                       have n1_ := Aside0.mk (Kd.V_below (by (with_reducible repeat (first | apply Kd.V_alloc | apply Kd.V_drewN | apply Kd.V_drew)); exact HO131.out) hb)
                       have n2_ := Aside0.mk (Kd.V_below (by (with_reducible repeat (first | apply Kd.V_alloc | apply Kd.V_drewN | apply Kd.V_drew)); exact HO134.out) hb)
                       have n3_ := Aside0.mk (Kd.V_below (by (with_reducible repeat (first | apply Kd.V_alloc | apply Kd.V_drewN | apply Kd.V_drew)); exact HO141.out) hb)
                       have n4_ := Aside0.mk (Kd.V_below (by (with_reducible repeat (first | apply Kd.V_alloc | apply Kd.V_drewN | apply Kd.V_drew)); exact HO144.out) hb)
                       have n5_ := Aside0.mk (Kd.R_below (by (with_reducible repeat (first | apply Kd.R_alloc | apply Kd.R_drewN | apply Kd.R_drew)); exact HO151.out) hb)
                       have n6_ := Aside0.mk (Kd.V_below (by (with_reducible repeat (first | apply Kd.V_alloc | apply Kd.V_drewN | apply Kd.V_drew)); exact HO154.out) hb)
                       have n7_ := Aside0.mk (Kd.V_below (by (with_reducible repeat (first | apply Kd.V_alloc | apply Kd.V_drewN | apply Kd.V_drew)); exact HO157.out) hb)
                       have n8_ := Aside0.mk (Kd.V_below (by (with_reducible repeat (first | apply Kd.V_alloc | apply Kd.V_drewN | apply Kd.V_drew)); exact HO164.out) hb)
                       have n9_ := Aside0.mk (Kd.R_below (by (with_reducible repeat (first | apply Kd.R_alloc | apply Kd.R_drewN | apply Kd.R_drew)); exact HO169.out) hb)
                       have n10_ := Aside0.mk (Kd.V_lower (Kd.V_mono (ok' := fun k_ => some k_ ≠ (v125 : Value).ownBlock ∧ some k_ ≠ (v150 : Value).ownBlock ∧ some k_ ≠ (v168 : Value).ownBlock ∧ k_ ≠ gb138 ∧ k_ ≠ gb180) ho0 (fun k_ hk_ => ⟨(Kd.fresh' (Kd.R_lt (by (with_reducible repeat (first | apply Kd.R_alloc | apply Kd.R_drewN | apply Kd.R_drew)); exact HO126.out)) k_ hk_), (Kd.fresh' (Kd.R_lt (by (with_reducible repeat (first | apply Kd.R_alloc | apply Kd.R_drewN | apply Kd.R_drew)); exact HO151.out)) k_ hk_), (Kd.fresh' (Kd.R_lt (by (with_reducible repeat (first | apply Kd.R_alloc | apply Kd.R_drewN | apply Kd.R_drew)); exact HO169.out)) k_ hk_), (Kd.freshB (g := gb138) (o := .cells #[.slice Ao51 t152.length co51, .slice Ao53 t155.length co53, .int .i64 t158, .bool t159] 25 (0, 0)) (by (with_reducible repeat (first | refine blk_drewN ?_ _ | refine blk_drew ?_ | refine blk_alloc ?_ _)); exact BK138.out) k_ hk_), (Kd.freshB (g := gb180) (o := .cells #[.slice none 0 0, .slice none 0 0, .int .i64 0, .bool false] 25 (0, 0)) (by (with_reducible repeat (first | refine blk_drewN ?_ _ | refine blk_drew ?_ | refine blk_alloc ?_ _)); exact BK180.out) k_ hk_)⟩)) (below_size (by repeat (first | (with_reducible first | exact HB.out | apply below_alloc | apply pw_below_drewN | apply below_drew1 | refine below_set ?_ GE138.out | refine below_set ?_ GE180.out) | exact HB.out))))
                       have n11_ := Aside0.mk (Kd.V_lower (Kd.V_mono (ok' := fun k_ => some k_ ≠ (v125 : Value).ownBlock ∧ some k_ ≠ (v150 : Value).ownBlock ∧ some k_ ≠ (v168 : Value).ownBlock ∧ k_ ≠ gb138 ∧ k_ ≠ gb180) ho1 (fun k_ hk_ => ⟨(Kd.fresh' (Kd.R_lt (by (with_reducible repeat (first | apply Kd.R_alloc | apply Kd.R_drewN | apply Kd.R_drew)); exact HO126.out)) k_ hk_), (Kd.fresh' (Kd.R_lt (by (with_reducible repeat (first | apply Kd.R_alloc | apply Kd.R_drewN | apply Kd.R_drew)); exact HO151.out)) k_ hk_), (Kd.fresh' (Kd.R_lt (by (with_reducible repeat (first | apply Kd.R_alloc | apply Kd.R_drewN | apply Kd.R_drew)); exact HO169.out)) k_ hk_), (Kd.freshB (g := gb138) (o := .cells #[.slice Ao51 t152.length co51, .slice Ao53 t155.length co53, .int .i64 t158, .bool t159] 25 (0, 0)) (by (with_reducible repeat (first | refine blk_drewN ?_ _ | refine blk_drew ?_ | refine blk_alloc ?_ _)); exact BK138.out) k_ hk_), (Kd.freshB (g := gb180) (o := .cells #[.slice none 0 0, .slice none 0 0, .int .i64 0, .bool false] 25 (0, 0)) (by (with_reducible repeat (first | refine blk_drewN ?_ _ | refine blk_drew ?_ | refine blk_alloc ?_ _)); exact BK180.out) k_ hk_)⟩)) (below_size (by repeat (first | (with_reducible first | exact HB.out | apply below_alloc | apply pw_below_drewN | apply below_drew1 | refine below_set ?_ GE138.out | refine below_set ?_ GE180.out) | exact HB.out))))
                       have n12_ := Aside0.mk (blk_below (g := gb138) (o := .cells #[.slice Ao51 t152.length co51, .slice Ao53 t155.length co53, .int .i64 t158, .bool t159] 25 (0, 0)) (by (with_reducible repeat (first | refine blk_drewN ?_ _ | refine blk_drew ?_ | refine blk_alloc ?_ _)); exact BK138.out) hb)
                       have n13_ := Aside0.mk (blk_below (g := gb180) (o := .cells #[.slice none 0 0, .slice none 0 0, .int .i64 0, .bool false] 25 (0, 0)) (by (with_reducible repeat (first | refine blk_drewN ?_ _ | refine blk_drew ?_ | refine blk_alloc ?_ _)); exact BK180.out) hb)
                       have n14_ := Aside0.mk (below_step (by repeat (first | (with_reducible first | exact HB.out | apply below_alloc | apply pw_below_drewN | apply below_drew1 | refine below_set ?_ GE138.out | refine below_set ?_ GE180.out) | exact HB.out)) hb)
                       clear HO126
                       clear HO131
                       clear HO134
                       clear HO141
                       clear HO144
                       clear HO151
                       clear HO154
                       clear HO157
                       clear HO164
                       clear HO169
                       clear BK138
                       clear BK180
                       clear HB
                       have HO126 := n0_
                       have HO131 := n1_
                       have HO134 := n2_
                       have HO141 := n3_
                       have HO144 := n4_
                       have HO151 := n5_
                       have HO154 := n6_
                       have HO157 := n7_
                       have HO164 := n8_
                       have HO169 := n9_
                       have HO172 := n10_
                       have HO175 := n11_
                       have BK138 := n12_
                       have BK180 := n13_
                       have HB := n14_
                       clear n0_ n1_ n2_ n3_ n4_ n5_ n6_ n7_ n8_ n9_ n10_ n11_ n12_ n13_ n14_
                       (try clear hb)
                       (try clear hb2)
                       (try clear hk)
                       (try clear hi)
                       (try clear ho0)
                       (try clear ho1)
                       refine hK.out _ _ ⟨(blk_cell BK138.out 0).trans rfl, (blk_cell BK138.out 1).trans rfl, (blk_cell BK138.out 2).trans rfl, (blk_cell BK138.out 3).trans rfl⟩ (fun hHeld => ?_)
                       clear hK K
                       refine norm_ (a' := ?_) ?_ ?_
                       rotate_left
                       ·show Act.put _ (some 65) _ = _
                        simp only [Act.put, List.setIfInBounds_toArray, List.set_cons_zero, List.set_cons_succ, i64_w, i32_w]
                        rfl
                       refine pure_ (i := 5) (N := some 60) (v := ?_) (a' := ?_) #[true, true, true, true, true, true, false, false, false, true, false, false, false] rfl rfl (any_of HT_.out (by kernel_rfl)) (fun _ _ _ h => h) (Or.inl ⟨by rfl, ?_⟩) ?_ ?_
                       rotate_left
                       ·intro w'
                        go_simp
                        with_reducible rfl
                       rotate_left
                       ·simp only [Act.put, List.setIfInBounds_toArray, List.set_cons_zero, List.set_cons_succ, i64_w, i32_w]
                        rfl
                       refine pure_ (i := 6) (N := some 66) (v := ?_) (a' := ?_) #[true, true, true, true, true, true, true, false, false, true, false, false, false] rfl rfl (any_of HT_.out (by kernel_rfl)) (fun _ _ _ h => h) (Or.inl ⟨by rfl, ?_⟩) ?_ ?_
                       rotate_left
                       ·intro w'
                        go_simp
                        with_reducible rfl
                       rotate_left
                       ·simp only [Act.put, List.setIfInBounds_toArray, List.set_cons_zero, List.set_cons_succ, i64_w, i32_w]
                        rfl
                       refine pure_ (i := 7) (N := some 67) (v := ?_) (a' := ?_) #[true, true, true, true, true, true, true, true, false, true, false, false, false] rfl rfl (any_of HT_.out (by kernel_rfl)) (fun _ _ _ h => h) (Or.inl ⟨by rfl, ?_⟩) ?_ ?_
                       rotate_left
                       ·intro w'
                        go_simp
                        with_reducible rfl
                       rotate_left
                       ·simp only [Act.put, List.setIfInBounds_toArray, List.set_cons_zero, List.set_cons_succ, i64_w, i32_w]
                        rfl
                       refine pure_ (i := 8) (N := some 68) (v := ?_) (a' := ?_) #[true, true, true, true, true, true, true, true, true, true, false, false, false] rfl rfl (any_of HT_.out (by kernel_rfl)) (fun _ _ _ h => h) (Or.inl ⟨by rfl, ?_⟩) ?_ ?_
                       rotate_left
                       ·intro w'
                        go_simp
                        with_reducible rfl
                       rotate_left
                       ·simp only [Act.put, List.setIfInBounds_toArray, List.set_cons_zero, List.set_cons_succ, i64_w, i32_w]
                        rfl
                       exact norm_ (by simp only [putAll, Act.put, List.setIfInBounds_toArray, List.set_cons_zero, List.set_cons_succ]) (hCont (v168, v171, v174, gb180) _ ⟨hHeld, (by (with_reducible repeat (first | apply Kd.R_alloc | apply Kd.R_drewN | apply Kd.R_drew)); exact Kd.R_mono HO126.out (fun _ hk => ⟨hk.1.2, hk.2⟩)), (by (with_reducible repeat (first | apply Kd.V_alloc | apply Kd.V_drewN | apply Kd.V_drew)); exact Kd.V_mono HO131.out (fun _ hk => ⟨hk.1.1.1.1, ⟨hk.1.1.2, ⟨hk.2, ⟨hk.1.1.1.2, hk.1.2⟩⟩⟩⟩)), (by (with_reducible repeat (first | apply Kd.V_alloc | apply Kd.V_drewN | apply Kd.V_drew)); exact Kd.V_mono HO134.out (fun _ hk => ⟨hk.1.1.1.1, ⟨hk.1.1.2, ⟨hk.2, ⟨hk.1.1.1.2, hk.1.2⟩⟩⟩⟩)), (by (with_reducible repeat (first | apply Kd.V_alloc | apply Kd.V_drewN | apply Kd.V_drew)); exact Kd.V_mono HO141.out (fun _ hk => ⟨hk.1.1.1.1, ⟨hk.1.1.2, ⟨hk.2, ⟨hk.1.1.1.2, hk.1.2⟩⟩⟩⟩)), (by (with_reducible repeat (first | apply Kd.V_alloc | apply Kd.V_drewN | apply Kd.V_drew)); exact Kd.V_mono HO144.out (fun _ hk => ⟨hk.1.1.1.1, ⟨hk.1.1.2, ⟨hk.2, ⟨hk.1.1.1.2, hk.1.2⟩⟩⟩⟩)), (by (with_reducible repeat (first | apply Kd.R_alloc | apply Kd.R_drewN | apply Kd.R_drew)); exact Kd.R_mono HO151.out (fun _ hk => ⟨hk.1.2, hk.2⟩)), (by (with_reducible repeat (first | apply Kd.V_alloc | apply Kd.V_drewN | apply Kd.V_drew)); exact Kd.V_mono HO154.out (fun _ hk => ⟨hk.1.1.1, ⟨hk.1.1.2.1, ⟨hk.2, ⟨hk.1.1.2.2, hk.1.2⟩⟩⟩⟩)), (by (with_reducible repeat (first | apply Kd.V_alloc | apply Kd.V_drewN | apply Kd.V_drew)); exact Kd.V_mono HO157.out (fun _ hk => ⟨hk.1.1.1, ⟨hk.1.1.2.1, ⟨hk.2, ⟨hk.1.1.2.2, hk.1.2⟩⟩⟩⟩)), (by (with_reducible repeat (first | apply Kd.V_alloc | apply Kd.V_drewN | apply Kd.V_drew)); exact Kd.V_mono HO164.out (fun _ hk => ⟨hk.1.1.1, ⟨hk.1.1.2.1, ⟨hk.2, ⟨hk.1.1.2.2, hk.1.2⟩⟩⟩⟩)), (by (with_reducible repeat (first | apply Kd.R_alloc | apply Kd.R_drewN | apply Kd.R_drew)); exact Kd.R_mono HO169.out (fun _ hk => ⟨hk.1.2, hk.2⟩)), (by (with_reducible repeat (first | apply Kd.V_alloc | apply Kd.V_drewN | apply Kd.V_drew)); exact HO172.out), (by (with_reducible repeat (first | apply Kd.V_alloc | apply Kd.V_drewN | apply Kd.V_drew)); exact HO175.out), (by (with_reducible repeat (first | refine blk_drewN ?_ _ | refine blk_drew ?_ | refine blk_alloc ?_ _)); exact BK138.out), (by (with_reducible repeat (first | refine blk_drewN ?_ _ | refine blk_drew ?_ | refine blk_alloc ?_ _)); exact BK180.out), GW180.out, GE180.out, NB138_180.out, NB180_138.out, (by repeat (first | (with_reducible first | exact HB.out | apply below_alloc | apply pw_below_drewN | apply below_drew1 | refine below_set ?_ GE138.out | refine below_set ?_ GE180.out) | exact HB.out))⟩)
                     rintro ⟨v168, v171, v174, gb180⟩ w65 ⟨hS_, h0_, h1_, h2_, h3_, h4_, h5_, h6_, h7_, h8_, h9_, h10_, h11_, h12_, h13_, h14_, h15_, h16_, h17_, h18_⟩
                     have n0_ : Aside0 (Kd.R (Kd.int .u8) 5 w65 w.heap.size (fun k_ => some k_ ≠ (v150 : Value).ownBlock ∧ some k_ ≠ (v168 : Value).ownBlock) v125 y124) := ⟨h0_⟩
                     have n1_ : Aside0 (Kd.V Kd.string 9 w65 w.heap.size (fun k_ => some k_ ≠ (v125 : Value).ownBlock ∧ some k_ ≠ (v150 : Value).ownBlock ∧ some k_ ≠ (v168 : Value).ownBlock ∧ k_ ≠ gb138 ∧ k_ ≠ gb180) (.slice Ao38 t129.length co38) t129) := ⟨h1_⟩
                     have n2_ : Aside0 (Kd.V k60 60 w65 w.heap.size (fun k_ => some k_ ≠ (v125 : Value).ownBlock ∧ some k_ ≠ (v150 : Value).ownBlock ∧ some k_ ≠ (v168 : Value).ownBlock ∧ k_ ≠ gb138 ∧ k_ ≠ gb180) (.slice Ao40 t132.length co40) t132) := ⟨h2_⟩
                     have n3_ : Aside0 (Kd.V Kd.string 9 w65 w.heap.size (fun k_ => some k_ ≠ (v125 : Value).ownBlock ∧ some k_ ≠ (v150 : Value).ownBlock ∧ some k_ ≠ (v168 : Value).ownBlock ∧ k_ ≠ gb138 ∧ k_ ≠ gb180) (.slice Ao42 t139.length co42) t139) := ⟨h3_⟩
                     have n4_ : Aside0 (Kd.V k60 60 w65 w.heap.size (fun k_ => some k_ ≠ (v125 : Value).ownBlock ∧ some k_ ≠ (v150 : Value).ownBlock ∧ some k_ ≠ (v168 : Value).ownBlock ∧ k_ ≠ gb138 ∧ k_ ≠ gb180) (.slice Ao44 t142.length co44) t142) := ⟨h4_⟩
                     have n5_ : Aside0 (Kd.R (Kd.int .u8) 5 w65 w.heap.size (fun k_ => some k_ ≠ (v125 : Value).ownBlock ∧ some k_ ≠ (v168 : Value).ownBlock) v150 y149) := ⟨h5_⟩
                     have n6_ : Aside0 (Kd.V Kd.string 9 w65 w.heap.size (fun k_ => some k_ ≠ (v125 : Value).ownBlock ∧ some k_ ≠ (v150 : Value).ownBlock ∧ some k_ ≠ (v168 : Value).ownBlock ∧ k_ ≠ gb138 ∧ k_ ≠ gb180) (.slice Ao51 t152.length co51) t152) := ⟨h6_⟩
                     have n7_ : Aside0 (Kd.V k60 60 w65 w.heap.size (fun k_ => some k_ ≠ (v125 : Value).ownBlock ∧ some k_ ≠ (v150 : Value).ownBlock ∧ some k_ ≠ (v168 : Value).ownBlock ∧ k_ ≠ gb138 ∧ k_ ≠ gb180) (.slice Ao53 t155.length co53) t155) := ⟨h7_⟩
                     have n8_ : Aside0 (Kd.V Kd.string 9 w65 w.heap.size (fun k_ => some k_ ≠ (v125 : Value).ownBlock ∧ some k_ ≠ (v150 : Value).ownBlock ∧ some k_ ≠ (v168 : Value).ownBlock ∧ k_ ≠ gb138 ∧ k_ ≠ gb180) v163 t162) := ⟨h8_⟩
                     have n9_ : Aside0 (Kd.R (Kd.int .u8) 5 w65 w.heap.size (fun k_ => some k_ ≠ (v125 : Value).ownBlock ∧ some k_ ≠ (v150 : Value).ownBlock) v168 y167) := ⟨h9_⟩
                     have n10_ : Aside0 (Kd.V Kd.string 9 w65 w.heap.size (fun k_ => some k_ ≠ (v125 : Value).ownBlock ∧ some k_ ≠ (v150 : Value).ownBlock ∧ some k_ ≠ (v168 : Value).ownBlock ∧ k_ ≠ gb138 ∧ k_ ≠ gb180) v171 t170) := ⟨h10_⟩
                     have n11_ : Aside0 (Kd.V k60 60 w65 w.heap.size (fun k_ => some k_ ≠ (v125 : Value).ownBlock ∧ some k_ ≠ (v150 : Value).ownBlock ∧ some k_ ≠ (v168 : Value).ownBlock ∧ k_ ≠ gb138 ∧ k_ ≠ gb180) v174 t173) := ⟨h11_⟩
                     have n12_ : Aside0 (w65.heap[gb138]? = some (.cells #[.slice Ao51 t152.length co51, .slice Ao53 t155.length co53, .int .i64 t158, .bool t159] 25 (0, 0))) := ⟨h12_⟩
                     have n13_ : Aside0 (w65.heap[gb180]? = some (.cells #[.slice none 0 0, .slice none 0 0, .int .i64 0, .bool false] 25 (0, 0))) := ⟨h13_⟩
                     have n14_ : Aside0 (w.heap.size ≤ gb180) := ⟨h14_⟩
                     have n15_ : Aside0 (w.heap.size ≤ gb180) := ⟨h15_⟩
                     have n16_ : Aside0 (gb138 ≠ gb180) := ⟨h16_⟩
                     have n17_ : Aside0 (gb180 ≠ gb138) := ⟨h17_⟩
                     have n18_ : Aside0 (Below w.heap.size w w65) := ⟨h18_⟩
                     clear HO126
                     clear HO131
                     clear HO134
                     clear HO141
                     clear HO144
                     clear HO151
                     clear HO154
                     clear HO157
                     clear HO164
                     clear BK138
                     clear HB
                     clear h0_ h1_ h2_ h3_ h4_ h5_ h6_ h7_ h8_ h9_ h10_ h11_ h12_ h13_ h14_ h15_ h16_ h17_ h18_
                     have HO126 := n0_
                     have HO131 := n1_
                     have HO134 := n2_
                     have HO141 := n3_
                     have HO144 := n4_
                     have HO151 := n5_
                     have HO154 := n6_
                     have HO157 := n7_
                     have HO164 := n8_
                     have HO169 := n9_
                     have HO172 := n10_
                     have HO175 := n11_
                     have BK138 := n12_
                     have BK180 := n13_
                     have GW180 := n14_
                     have GE180 := n15_
                     have NB138_180 := n16_
                     have NB180_138 := n17_
                     have HB := n18_
                     clear n0_ n1_ n2_ n3_ n4_ n5_ n6_ n7_ n8_ n9_ n10_ n11_ n12_ n13_ n14_ n15_ n16_ n17_ n18_
                     have hHeld : w65.cell? ⟨gb138, 0, none⟩ = some (.slice Ao51 t152.length co51) ∧ w65.cell? ⟨gb138, 1, none⟩ = some (.slice Ao53 t155.length co53) ∧ w65.cell? ⟨gb138, 2, none⟩ = some (.int .i64 t158) ∧ w65.cell? ⟨gb138, 3, none⟩ = some (.bool t159) := hS_
                     obtain ⟨Ao66, co66, eo66⟩ := Kd.V_slice HO172.out
                     (first | subst eo66 | (injection eo66 with f1_ f2_ f3_; have f4_ := f1_.symm; have f5_ := f3_.symm; clear f1_ f2_ f3_; subst f4_; subst f5_))
                     obtain ⟨Ao68, co68, eo68⟩ := Kd.V_slice HO175.out
                     (first | subst eo68 | (injection eo68 with f1_ f2_ f3_; have f4_ := f1_.symm; have f5_ := f3_.symm; clear f1_ f2_ f3_; subst f4_; subst f5_))
                     refine norm_ (a' := ?_) ?_ ?_
                     rotate_left
                     ·simp only [putAll, Act.put, List.setIfInBounds_toArray, List.set_cons_zero, List.set_cons_succ]
                      rfl
                     refine one_ (i := 10) (N := none) #[true, true, true, true, true, true, true, true, true, true, true, false, false] rfl rfl (one_of HT_.out (by kernel_rfl)) (by decide) (fun K hK => ?_)
                     have hs67 : w65.cell? ⟨gb180, 0, none⟩ = some (.slice none 0 0) := (blk_cell BK180.out 0).trans rfl
                     have hfs67 := blk_frozen BK180.out 0
                     have hns67_0 := NB138_180.out
                     have hms67_0 := NB180_138.out
                     have hs69 : w65.cell? ⟨gb180, 1, none⟩ = some (.slice none 0 0) := (blk_cell BK180.out 1).trans rfl
                     have hfs69 := blk_frozen BK180.out 1
                     have hns69_0 := NB138_180.out
                     have hms69_0 := NB180_138.out
                     have hs70 : w65.cell? ⟨gb180, 2, none⟩ = some (.int .i64 0) := (blk_cell BK180.out 2).trans rfl
                     have hfs70 := blk_frozen BK180.out 2
                     have hns70_0 := NB138_180.out
                     have hms70_0 := NB180_138.out
                     have hs71 : w65.cell? ⟨gb180, 3, none⟩ = some (.bool false) := (blk_cell BK180.out 3).trans rfl
                     have hfs71 := blk_frozen BK180.out 3
                     have hns71_0 := NB138_180.out
                     have hms71_0 := NB180_138.out
                     refine skip_ (w1 := ?_) (by rfl) rfl ?_ ?_
                     rotate_left
                     ·go_simp
                      rfl
                     refine hK.out _ _ ⟨((cell_far (p := ⟨gb180, _, none⟩) NB138_180.out _).trans (((cell_far (p := ⟨gb180, _, none⟩) NB138_180.out _).trans (((cell_far (p := ⟨gb180, _, none⟩) NB138_180.out _).trans (((cell_far (p := ⟨gb180, _, none⟩) NB138_180.out _).trans (hHeld.1)))))))), ((cell_far (p := ⟨gb180, _, none⟩) NB138_180.out _).trans (((cell_far (p := ⟨gb180, _, none⟩) NB138_180.out _).trans (((cell_far (p := ⟨gb180, _, none⟩) NB138_180.out _).trans (((cell_far (p := ⟨gb180, _, none⟩) NB138_180.out _).trans (hHeld.2.1)))))))), ((cell_far (p := ⟨gb180, _, none⟩) NB138_180.out _).trans (((cell_far (p := ⟨gb180, _, none⟩) NB138_180.out _).trans (((cell_far (p := ⟨gb180, _, none⟩) NB138_180.out _).trans (((cell_far (p := ⟨gb180, _, none⟩) NB138_180.out _).trans (hHeld.2.2.1)))))))), ((cell_far (p := ⟨gb180, _, none⟩) NB138_180.out _).trans (((cell_far (p := ⟨gb180, _, none⟩) NB138_180.out _).trans (((cell_far (p := ⟨gb180, _, none⟩) NB138_180.out _).trans (((cell_far (p := ⟨gb180, _, none⟩) NB138_180.out _).trans (hHeld.2.2.2))))))))⟩ (fun hHeld => ?_)
                     clear hK K
                     refine pure_ (i := 11) (N := some 15) (v := ?_) (a' := ?_) #[true, true, true, true, true, true, true, true, true, true, true, true, false] rfl rfl (any_of HT_.out (by kernel_rfl)) (fun _ _ _ h => h) (Or.inl ⟨by rfl, ?_⟩) ?_ ?_
                     rotate_left
                     ·intro w'
                      go_simp
                      with_reducible rfl
                     rotate_left
                     ·simp only [Act.put, List.setIfInBounds_toArray, List.set_cons_zero, List.set_cons_succ, i64_w, i32_w]
                      rfl
                     refine pure_ (i := 12) (N := some 16) (v := ?_) (a' := ?_) #[true, true, true, true, true, true, true, true, true, true, true, true, true] rfl rfl (any_of HT_.out (by kernel_rfl)) (fun _ _ _ h => h) (Or.inl ⟨by rfl, ?_⟩) ?_ ?_
                     rotate_left
                     ·intro w'
                      go_simp
                      with_reducible rfl
                     rotate_left
                     ·simp only [Act.put, List.setIfInBounds_toArray, List.set_cons_zero, List.set_cons_succ, i64_w, i32_w]
                      rfl
                     refine done_ (done_of HT_.out (by kernel_rfl)) ?_
                     have hnb72 := NB138_180.out
                     have hnc72 := NB180_138.out
                     have hcz73_0 : w65.cell? ⟨gb138, 0, none⟩ = some (.slice Ao51 t152.length co51) := (blk_cell BK138.out 0).trans rfl
                     have hcz73_1 : w65.cell? ⟨gb138, 1, none⟩ = some (.slice Ao53 t155.length co53) := (blk_cell BK138.out 1).trans rfl
                     have hcz73_2 : w65.cell? ⟨gb138, 2, none⟩ = some (.int .i64 t158) := (blk_cell BK138.out 2).trans rfl
                     have hcz73_3 : w65.cell? ⟨gb138, 3, none⟩ = some (.bool t159) := (blk_cell BK138.out 3).trans rfl
                     have hfz73_0 := blk_frozen BK138.out 0
                     have hfz73_1 := blk_frozen BK138.out 1
                     have hfz73_2 := blk_frozen BK138.out 2
                     have hfz73_3 := blk_frozen BK138.out 3
                     try go_wp2_with (first | ((with_reducible refine gate_callee (f := 8) rfl ?_); refine goesL_ (some 71) rfl rfl Tryd.func8 (by kernel_rfl) rfl #[.agg #[.slice Ao51 t152.length co51, .slice Ao53 t155.length co53, .int .i64 t158, .bool t159], .int .i64 2, .int .i64 5] rfl (by (try simp only [List.map_toArray, List.map_cons, List.map_nil]); first | done | rfl | (simp only [List.length_drop, List.length_take]; rfl)) ?_; (with_reducible refine (trail_Wipe.calls _ _ t152 _ _ t155 t158 t159 2 5 t181 t184 t187 t188 t189 _ ?side1 ?side2 ?side3 ?side4 A10.out).mono ?_); (case side1 => refine (Kd.V_reads' (e := 9) (base := w.heap.size) (ok := fun k_ => (some k_ ≠ (v125 : Value).ownBlock ∧ (some k_ ≠ (v150 : Value).ownBlock ∧ (some k_ ≠ (v168 : Value).ownBlock ∧ (k_ ≠ gb138 ∧ k_ ≠ gb180))))) (n := t152.length) (c := co51) ?_).2.2; exact (by (with_reducible repeat (first | apply Kd.V_alloc | apply Kd.V_drewN | apply Kd.V_drew)); exact (Kd.V_mono (Kd.V_far (p := ⟨gb180, 3, none⟩) (Kd.V_far (p := ⟨gb180, 2, none⟩) (Kd.V_far (p := ⟨gb180, 1, none⟩) (Kd.V_far (p := ⟨gb180, 0, none⟩) (Kd.V_mono HO154.out (fun k_ hk => (⟨hk, hk.2.2.2.2⟩ : _ ∧ k_ ≠ gb180))) (fun _ hk => hk.2) (.slice Ao66 t170.length co66)) (fun _ hk => hk.2) (.slice Ao68 t173.length co68)) (fun _ hk => hk.2) (.int .i64 t176)) (fun _ hk => hk.2) (.bool t177)) (fun _ h_ => h_.1)))); (case side2 => exact (Kd.V_reads' HO154.out).2.1); (case side3 => refine (Kd.V_reads' (e := 60) (base := w.heap.size) (ok := fun k_ => (some k_ ≠ (v125 : Value).ownBlock ∧ (some k_ ≠ (v150 : Value).ownBlock ∧ (some k_ ≠ (v168 : Value).ownBlock ∧ (k_ ≠ gb138 ∧ k_ ≠ gb180))))) (n := t155.length) (c := co53) ?_).2.2; exact (by (with_reducible repeat (first | apply Kd.V_alloc | apply Kd.V_drewN | apply Kd.V_drew)); exact (Kd.V_mono (Kd.V_far (p := ⟨gb180, 3, none⟩) (Kd.V_far (p := ⟨gb180, 2, none⟩) (Kd.V_far (p := ⟨gb180, 1, none⟩) (Kd.V_far (p := ⟨gb180, 0, none⟩) (Kd.V_mono HO157.out (fun k_ hk => (⟨hk, hk.2.2.2.2⟩ : _ ∧ k_ ≠ gb180))) (fun _ hk => hk.2) (.slice Ao66 t170.length co66)) (fun _ hk => hk.2) (.slice Ao68 t173.length co68)) (fun _ hk => hk.2) (.int .i64 t176)) (fun _ hk => hk.2) (.bool t177)) (fun _ h_ => h_.1)))); (case side4 => exact (Kd.V_reads' HO157.out).2.1); rintro e w74 ⟨v182, v185, rfl, ho0, ho1, hb⟩; refine ⟨_, rfl, ?_⟩; have n0_ := Aside0.mk (Kd.R_below (by (with_reducible repeat (first | apply Kd.R_alloc | apply Kd.R_drewN | apply Kd.R_drew)); exact (Kd.R_mono (Kd.R_far (p := ⟨gb180, 3, none⟩) (Kd.R_far (p := ⟨gb180, 2, none⟩) (Kd.R_far (p := ⟨gb180, 1, none⟩) (Kd.R_far (p := ⟨gb180, 0, none⟩) (Kd.R_types HO126.out BK180.out (by decide)) (fun _ hk => hk.2) (.slice Ao66 t170.length co66)) (fun _ hk => hk.2) (.slice Ao68 t173.length co68)) (fun _ hk => hk.2) (.int .i64 t176)) (fun _ hk => hk.2) (.bool t177)) (fun _ h_ => h_.1))) hb); have n1_ := Aside0.mk (Kd.V_below (by (with_reducible repeat (first | apply Kd.V_alloc | apply Kd.V_drewN | apply Kd.V_drew)); exact (Kd.V_mono (Kd.V_far (p := ⟨gb180, 3, none⟩) (Kd.V_far (p := ⟨gb180, 2, none⟩) (Kd.V_far (p := ⟨gb180, 1, none⟩) (Kd.V_far (p := ⟨gb180, 0, none⟩) (Kd.V_mono HO131.out (fun k_ hk => (⟨hk, hk.2.2.2.2⟩ : _ ∧ k_ ≠ gb180))) (fun _ hk => hk.2) (.slice Ao66 t170.length co66)) (fun _ hk => hk.2) (.slice Ao68 t173.length co68)) (fun _ hk => hk.2) (.int .i64 t176)) (fun _ hk => hk.2) (.bool t177)) (fun _ h_ => h_.1))) hb); have n2_ := Aside0.mk (Kd.V_below (by (with_reducible repeat (first | apply Kd.V_alloc | apply Kd.V_drewN | apply Kd.V_drew)); exact (Kd.V_mono (Kd.V_far (p := ⟨gb180, 3, none⟩) (Kd.V_far (p := ⟨gb180, 2, none⟩) (Kd.V_far (p := ⟨gb180, 1, none⟩) (Kd.V_far (p := ⟨gb180, 0, none⟩) (Kd.V_mono HO134.out (fun k_ hk => (⟨hk, hk.2.2.2.2⟩ : _ ∧ k_ ≠ gb180))) (fun _ hk => hk.2) (.slice Ao66 t170.length co66)) (fun _ hk => hk.2) (.slice Ao68 t173.length co68)) (fun _ hk => hk.2) (.int .i64 t176)) (fun _ hk => hk.2) (.bool t177)) (fun _ h_ => h_.1))) hb); have n3_ := Aside0.mk (Kd.V_below (by (with_reducible repeat (first | apply Kd.V_alloc | apply Kd.V_drewN | apply Kd.V_drew)); exact (Kd.V_mono (Kd.V_far (p := ⟨gb180, 3, none⟩) (Kd.V_far (p := ⟨gb180, 2, none⟩) (Kd.V_far (p := ⟨gb180, 1, none⟩) (Kd.V_far (p := ⟨gb180, 0, none⟩) (Kd.V_mono HO141.out (fun k_ hk => (⟨hk, hk.2.2.2.2⟩ : _ ∧ k_ ≠ gb180))) (fun _ hk => hk.2) (.slice Ao66 t170.length co66)) (fun _ hk => hk.2) (.slice Ao68 t173.length co68)) (fun _ hk => hk.2) (.int .i64 t176)) (fun _ hk => hk.2) (.bool t177)) (fun _ h_ => h_.1))) hb); have n4_ := Aside0.mk (Kd.V_below (by (with_reducible repeat (first | apply Kd.V_alloc | apply Kd.V_drewN | apply Kd.V_drew)); exact (Kd.V_mono (Kd.V_far (p := ⟨gb180, 3, none⟩) (Kd.V_far (p := ⟨gb180, 2, none⟩) (Kd.V_far (p := ⟨gb180, 1, none⟩) (Kd.V_far (p := ⟨gb180, 0, none⟩) (Kd.V_mono HO144.out (fun k_ hk => (⟨hk, hk.2.2.2.2⟩ : _ ∧ k_ ≠ gb180))) (fun _ hk => hk.2) (.slice Ao66 t170.length co66)) (fun _ hk => hk.2) (.slice Ao68 t173.length co68)) (fun _ hk => hk.2) (.int .i64 t176)) (fun _ hk => hk.2) (.bool t177)) (fun _ h_ => h_.1))) hb); have n5_ := Aside0.mk (Kd.R_below (by (with_reducible repeat (first | apply Kd.R_alloc | apply Kd.R_drewN | apply Kd.R_drew)); exact (Kd.R_mono (Kd.R_far (p := ⟨gb180, 3, none⟩) (Kd.R_far (p := ⟨gb180, 2, none⟩) (Kd.R_far (p := ⟨gb180, 1, none⟩) (Kd.R_far (p := ⟨gb180, 0, none⟩) (Kd.R_types HO151.out BK180.out (by decide)) (fun _ hk => hk.2) (.slice Ao66 t170.length co66)) (fun _ hk => hk.2) (.slice Ao68 t173.length co68)) (fun _ hk => hk.2) (.int .i64 t176)) (fun _ hk => hk.2) (.bool t177)) (fun _ h_ => h_.1))) hb); have n6_ := Aside0.mk (Kd.V_below (by (with_reducible repeat (first | apply Kd.V_alloc | apply Kd.V_drewN | apply Kd.V_drew)); exact (Kd.V_mono (Kd.V_far (p := ⟨gb180, 3, none⟩) (Kd.V_far (p := ⟨gb180, 2, none⟩) (Kd.V_far (p := ⟨gb180, 1, none⟩) (Kd.V_far (p := ⟨gb180, 0, none⟩) (Kd.V_mono HO154.out (fun k_ hk => (⟨hk, hk.2.2.2.2⟩ : _ ∧ k_ ≠ gb180))) (fun _ hk => hk.2) (.slice Ao66 t170.length co66)) (fun _ hk => hk.2) (.slice Ao68 t173.length co68)) (fun _ hk => hk.2) (.int .i64 t176)) (fun _ hk => hk.2) (.bool t177)) (fun _ h_ => h_.1))) hb); have n7_ := Aside0.mk (Kd.V_below (by (with_reducible repeat (first | apply Kd.V_alloc | apply Kd.V_drewN | apply Kd.V_drew)); exact (Kd.V_mono (Kd.V_far (p := ⟨gb180, 3, none⟩) (Kd.V_far (p := ⟨gb180, 2, none⟩) (Kd.V_far (p := ⟨gb180, 1, none⟩) (Kd.V_far (p := ⟨gb180, 0, none⟩) (Kd.V_mono HO157.out (fun k_ hk => (⟨hk, hk.2.2.2.2⟩ : _ ∧ k_ ≠ gb180))) (fun _ hk => hk.2) (.slice Ao66 t170.length co66)) (fun _ hk => hk.2) (.slice Ao68 t173.length co68)) (fun _ hk => hk.2) (.int .i64 t176)) (fun _ hk => hk.2) (.bool t177)) (fun _ h_ => h_.1))) hb); have n8_ := Aside0.mk (Kd.V_below (by (with_reducible repeat (first | apply Kd.V_alloc | apply Kd.V_drewN | apply Kd.V_drew)); exact (Kd.V_mono (Kd.V_far (p := ⟨gb180, 3, none⟩) (Kd.V_far (p := ⟨gb180, 2, none⟩) (Kd.V_far (p := ⟨gb180, 1, none⟩) (Kd.V_far (p := ⟨gb180, 0, none⟩) (Kd.V_mono HO164.out (fun k_ hk => (⟨hk, hk.2.2.2.2⟩ : _ ∧ k_ ≠ gb180))) (fun _ hk => hk.2) (.slice Ao66 t170.length co66)) (fun _ hk => hk.2) (.slice Ao68 t173.length co68)) (fun _ hk => hk.2) (.int .i64 t176)) (fun _ hk => hk.2) (.bool t177)) (fun _ h_ => h_.1))) hb); have n9_ := Aside0.mk (Kd.R_below (by (with_reducible repeat (first | apply Kd.R_alloc | apply Kd.R_drewN | apply Kd.R_drew)); exact (Kd.R_mono (Kd.R_far (p := ⟨gb180, 3, none⟩) (Kd.R_far (p := ⟨gb180, 2, none⟩) (Kd.R_far (p := ⟨gb180, 1, none⟩) (Kd.R_far (p := ⟨gb180, 0, none⟩) (Kd.R_types HO169.out BK180.out (by decide)) (fun _ hk => hk.2) (.slice Ao66 t170.length co66)) (fun _ hk => hk.2) (.slice Ao68 t173.length co68)) (fun _ hk => hk.2) (.int .i64 t176)) (fun _ hk => hk.2) (.bool t177)) (fun _ h_ => h_.1))) hb); have n10_ := Aside0.mk (Kd.V_below (by (with_reducible repeat (first | apply Kd.V_alloc | apply Kd.V_drewN | apply Kd.V_drew)); exact (Kd.V_mono (Kd.V_far (p := ⟨gb180, 3, none⟩) (Kd.V_far (p := ⟨gb180, 2, none⟩) (Kd.V_far (p := ⟨gb180, 1, none⟩) (Kd.V_far (p := ⟨gb180, 0, none⟩) (Kd.V_mono HO172.out (fun k_ hk => (⟨hk, hk.2.2.2.2⟩ : _ ∧ k_ ≠ gb180))) (fun _ hk => hk.2) (.slice Ao66 t170.length co66)) (fun _ hk => hk.2) (.slice Ao68 t173.length co68)) (fun _ hk => hk.2) (.int .i64 t176)) (fun _ hk => hk.2) (.bool t177)) (fun _ h_ => h_.1))) hb); have n11_ := Aside0.mk (Kd.V_below (by (with_reducible repeat (first | apply Kd.V_alloc | apply Kd.V_drewN | apply Kd.V_drew)); exact (Kd.V_mono (Kd.V_far (p := ⟨gb180, 3, none⟩) (Kd.V_far (p := ⟨gb180, 2, none⟩) (Kd.V_far (p := ⟨gb180, 1, none⟩) (Kd.V_far (p := ⟨gb180, 0, none⟩) (Kd.V_mono HO175.out (fun k_ hk => (⟨hk, hk.2.2.2.2⟩ : _ ∧ k_ ≠ gb180))) (fun _ hk => hk.2) (.slice Ao66 t170.length co66)) (fun _ hk => hk.2) (.slice Ao68 t173.length co68)) (fun _ hk => hk.2) (.int .i64 t176)) (fun _ hk => hk.2) (.bool t177)) (fun _ h_ => h_.1))) hb); have n12_ := Aside0.mk (Kd.V_lower (Kd.V_mono (ok' := fun k_ => some k_ ≠ (v125 : Value).ownBlock ∧ some k_ ≠ (v150 : Value).ownBlock ∧ some k_ ≠ (v168 : Value).ownBlock ∧ k_ ≠ gb138 ∧ k_ ≠ gb180) ho0 (fun k_ hk_ => ⟨(Kd.fresh' (Kd.R_lt (by (with_reducible repeat (first | apply Kd.R_alloc | apply Kd.R_drewN | apply Kd.R_drew)); exact (Kd.R_mono (Kd.R_far (p := ⟨gb180, 3, none⟩) (Kd.R_far (p := ⟨gb180, 2, none⟩) (Kd.R_far (p := ⟨gb180, 1, none⟩) (Kd.R_far (p := ⟨gb180, 0, none⟩) (Kd.R_types HO126.out BK180.out (by decide)) (fun _ hk => hk.2) (.slice Ao66 t170.length co66)) (fun _ hk => hk.2) (.slice Ao68 t173.length co68)) (fun _ hk => hk.2) (.int .i64 t176)) (fun _ hk => hk.2) (.bool t177)) (fun _ h_ => h_.1)))) k_ hk_), (Kd.fresh' (Kd.R_lt (by (with_reducible repeat (first | apply Kd.R_alloc | apply Kd.R_drewN | apply Kd.R_drew)); exact (Kd.R_mono (Kd.R_far (p := ⟨gb180, 3, none⟩) (Kd.R_far (p := ⟨gb180, 2, none⟩) (Kd.R_far (p := ⟨gb180, 1, none⟩) (Kd.R_far (p := ⟨gb180, 0, none⟩) (Kd.R_types HO151.out BK180.out (by decide)) (fun _ hk => hk.2) (.slice Ao66 t170.length co66)) (fun _ hk => hk.2) (.slice Ao68 t173.length co68)) (fun _ hk => hk.2) (.int .i64 t176)) (fun _ hk => hk.2) (.bool t177)) (fun _ h_ => h_.1)))) k_ hk_), (Kd.fresh' (Kd.R_lt (by (with_reducible repeat (first | apply Kd.R_alloc | apply Kd.R_drewN | apply Kd.R_drew)); exact (Kd.R_mono (Kd.R_far (p := ⟨gb180, 3, none⟩) (Kd.R_far (p := ⟨gb180, 2, none⟩) (Kd.R_far (p := ⟨gb180, 1, none⟩) (Kd.R_far (p := ⟨gb180, 0, none⟩) (Kd.R_types HO169.out BK180.out (by decide)) (fun _ hk => hk.2) (.slice Ao66 t170.length co66)) (fun _ hk => hk.2) (.slice Ao68 t173.length co68)) (fun _ hk => hk.2) (.int .i64 t176)) (fun _ hk => hk.2) (.bool t177)) (fun _ h_ => h_.1)))) k_ hk_), (Kd.freshB (g := gb138) (o := .cells #[.slice Ao51 t152.length co51, .slice Ao53 t155.length co53, .int .i64 t158, .bool t159] 25 (0, 0)) (by (with_reducible repeat (first | refine blk_drewN ?_ _ | refine blk_drew ?_ | refine blk_alloc ?_ _)); refine blk_far ?_ NB138_180.out _; (with_reducible repeat (first | refine blk_drewN ?_ _ | refine blk_drew ?_ | refine blk_alloc ?_ _)); refine blk_far ?_ NB138_180.out _; (with_reducible repeat (first | refine blk_drewN ?_ _ | refine blk_drew ?_ | refine blk_alloc ?_ _)); refine blk_far ?_ NB138_180.out _; (with_reducible repeat (first | refine blk_drewN ?_ _ | refine blk_drew ?_ | refine blk_alloc ?_ _)); refine blk_far ?_ NB138_180.out _; (with_reducible repeat (first | refine blk_drewN ?_ _ | refine blk_drew ?_ | refine blk_alloc ?_ _)); exact BK138.out) k_ hk_), (Kd.freshB (g := gb180) (o := .cells #[.slice Ao66 t170.length co66, .slice Ao68 t173.length co68, .int .i64 t176, .bool t177] 25 (0, 0)) (by (with_reducible repeat (first | refine blk_drewN ?_ _ | refine blk_drew ?_ | refine blk_alloc ?_ _)); refine blk_put (cs := #[.slice Ao66 t170.length co66, .slice Ao68 t173.length co68, .int .i64 t176, .bool false]) ?_ 3 _ rfl; (with_reducible repeat (first | refine blk_drewN ?_ _ | refine blk_drew ?_ | refine blk_alloc ?_ _)); refine blk_put (cs := #[.slice Ao66 t170.length co66, .slice Ao68 t173.length co68, .int .i64 0, .bool false]) ?_ 2 _ rfl; (with_reducible repeat (first | refine blk_drewN ?_ _ | refine blk_drew ?_ | refine blk_alloc ?_ _)); refine blk_put (cs := #[.slice Ao66 t170.length co66, .slice none 0 0, .int .i64 0, .bool false]) ?_ 1 _ rfl; (with_reducible repeat (first | refine blk_drewN ?_ _ | refine blk_drew ?_ | refine blk_alloc ?_ _)); refine blk_put (cs := #[.slice none 0 0, .slice none 0 0, .int .i64 0, .bool false]) ?_ 0 _ rfl; (with_reducible repeat (first | refine blk_drewN ?_ _ | refine blk_drew ?_ | refine blk_alloc ?_ _)); exact BK180.out) k_ hk_)⟩)) (below_size (by repeat (first | (with_reducible first | exact HB.out | apply below_alloc | apply pw_below_drewN | apply below_drew1 | refine below_set ?_ GE138.out | refine below_set ?_ GE180.out) | exact HB.out)))); have n13_ := Aside0.mk (Kd.V_lower (Kd.V_mono (ok' := fun k_ => some k_ ≠ (v125 : Value).ownBlock ∧ some k_ ≠ (v150 : Value).ownBlock ∧ some k_ ≠ (v168 : Value).ownBlock ∧ k_ ≠ gb138 ∧ k_ ≠ gb180) ho1 (fun k_ hk_ => ⟨(Kd.fresh' (Kd.R_lt (by (with_reducible repeat (first | apply Kd.R_alloc | apply Kd.R_drewN | apply Kd.R_drew)); exact (Kd.R_mono (Kd.R_far (p := ⟨gb180, 3, none⟩) (Kd.R_far (p := ⟨gb180, 2, none⟩) (Kd.R_far (p := ⟨gb180, 1, none⟩) (Kd.R_far (p := ⟨gb180, 0, none⟩) (Kd.R_types HO126.out BK180.out (by decide)) (fun _ hk => hk.2) (.slice Ao66 t170.length co66)) (fun _ hk => hk.2) (.slice Ao68 t173.length co68)) (fun _ hk => hk.2) (.int .i64 t176)) (fun _ hk => hk.2) (.bool t177)) (fun _ h_ => h_.1)))) k_ hk_), (Kd.fresh' (Kd.R_lt (by (with_reducible repeat (first | apply Kd.R_alloc | apply Kd.R_drewN | apply Kd.R_drew)); exact (Kd.R_mono (Kd.R_far (p := ⟨gb180, 3, none⟩) (Kd.R_far (p := ⟨gb180, 2, none⟩) (Kd.R_far (p := ⟨gb180, 1, none⟩) (Kd.R_far (p := ⟨gb180, 0, none⟩) (Kd.R_types HO151.out BK180.out (by decide)) (fun _ hk => hk.2) (.slice Ao66 t170.length co66)) (fun _ hk => hk.2) (.slice Ao68 t173.length co68)) (fun _ hk => hk.2) (.int .i64 t176)) (fun _ hk => hk.2) (.bool t177)) (fun _ h_ => h_.1)))) k_ hk_), (Kd.fresh' (Kd.R_lt (by (with_reducible repeat (first | apply Kd.R_alloc | apply Kd.R_drewN | apply Kd.R_drew)); exact (Kd.R_mono (Kd.R_far (p := ⟨gb180, 3, none⟩) (Kd.R_far (p := ⟨gb180, 2, none⟩) (Kd.R_far (p := ⟨gb180, 1, none⟩) (Kd.R_far (p := ⟨gb180, 0, none⟩) (Kd.R_types HO169.out BK180.out (by decide)) (fun _ hk => hk.2) (.slice Ao66 t170.length co66)) (fun _ hk => hk.2) (.slice Ao68 t173.length co68)) (fun _ hk => hk.2) (.int .i64 t176)) (fun _ hk => hk.2) (.bool t177)) (fun _ h_ => h_.1)))) k_ hk_), (Kd.freshB (g := gb138) (o := .cells #[.slice Ao51 t152.length co51, .slice Ao53 t155.length co53, .int .i64 t158, .bool t159] 25 (0, 0)) (by (with_reducible repeat (first | refine blk_drewN ?_ _ | refine blk_drew ?_ | refine blk_alloc ?_ _)); refine blk_far ?_ NB138_180.out _; (with_reducible repeat (first | refine blk_drewN ?_ _ | refine blk_drew ?_ | refine blk_alloc ?_ _)); refine blk_far ?_ NB138_180.out _; (with_reducible repeat (first | refine blk_drewN ?_ _ | refine blk_drew ?_ | refine blk_alloc ?_ _)); refine blk_far ?_ NB138_180.out _; (with_reducible repeat (first | refine blk_drewN ?_ _ | refine blk_drew ?_ | refine blk_alloc ?_ _)); refine blk_far ?_ NB138_180.out _; (with_reducible repeat (first | refine blk_drewN ?_ _ | refine blk_drew ?_ | refine blk_alloc ?_ _)); exact BK138.out) k_ hk_), (Kd.freshB (g := gb180) (o := .cells #[.slice Ao66 t170.length co66, .slice Ao68 t173.length co68, .int .i64 t176, .bool t177] 25 (0, 0)) (by (with_reducible repeat (first | refine blk_drewN ?_ _ | refine blk_drew ?_ | refine blk_alloc ?_ _)); refine blk_put (cs := #[.slice Ao66 t170.length co66, .slice Ao68 t173.length co68, .int .i64 t176, .bool false]) ?_ 3 _ rfl; (with_reducible repeat (first | refine blk_drewN ?_ _ | refine blk_drew ?_ | refine blk_alloc ?_ _)); refine blk_put (cs := #[.slice Ao66 t170.length co66, .slice Ao68 t173.length co68, .int .i64 0, .bool false]) ?_ 2 _ rfl; (with_reducible repeat (first | refine blk_drewN ?_ _ | refine blk_drew ?_ | refine blk_alloc ?_ _)); refine blk_put (cs := #[.slice Ao66 t170.length co66, .slice none 0 0, .int .i64 0, .bool false]) ?_ 1 _ rfl; (with_reducible repeat (first | refine blk_drewN ?_ _ | refine blk_drew ?_ | refine blk_alloc ?_ _)); refine blk_put (cs := #[.slice none 0 0, .slice none 0 0, .int .i64 0, .bool false]) ?_ 0 _ rfl; (with_reducible repeat (first | refine blk_drewN ?_ _ | refine blk_drew ?_ | refine blk_alloc ?_ _)); exact BK180.out) k_ hk_)⟩)) (below_size (by repeat (first | (with_reducible first | exact HB.out | apply below_alloc | apply pw_below_drewN | apply below_drew1 | refine below_set ?_ GE138.out | refine below_set ?_ GE180.out) | exact HB.out)))); have n14_ := Aside0.mk (blk_below (g := gb138) (o := .cells #[.slice Ao51 t152.length co51, .slice Ao53 t155.length co53, .int .i64 t158, .bool t159] 25 (0, 0)) (by (with_reducible repeat (first | refine blk_drewN ?_ _ | refine blk_drew ?_ | refine blk_alloc ?_ _)); refine blk_far ?_ NB138_180.out _; (with_reducible repeat (first | refine blk_drewN ?_ _ | refine blk_drew ?_ | refine blk_alloc ?_ _)); refine blk_far ?_ NB138_180.out _; (with_reducible repeat (first | refine blk_drewN ?_ _ | refine blk_drew ?_ | refine blk_alloc ?_ _)); refine blk_far ?_ NB138_180.out _; (with_reducible repeat (first | refine blk_drewN ?_ _ | refine blk_drew ?_ | refine blk_alloc ?_ _)); refine blk_far ?_ NB138_180.out _; (with_reducible repeat (first | refine blk_drewN ?_ _ | refine blk_drew ?_ | refine blk_alloc ?_ _)); exact BK138.out) hb); have n15_ := Aside0.mk (blk_below (g := gb180) (o := .cells #[.slice Ao66 t170.length co66, .slice Ao68 t173.length co68, .int .i64 t176, .bool t177] 25 (0, 0)) (by (with_reducible repeat (first | refine blk_drewN ?_ _ | refine blk_drew ?_ | refine blk_alloc ?_ _)); refine blk_put (cs := #[.slice Ao66 t170.length co66, .slice Ao68 t173.length co68, .int .i64 t176, .bool false]) ?_ 3 _ rfl; (with_reducible repeat (first | refine blk_drewN ?_ _ | refine blk_drew ?_ | refine blk_alloc ?_ _)); refine blk_put (cs := #[.slice Ao66 t170.length co66, .slice Ao68 t173.length co68, .int .i64 0, .bool false]) ?_ 2 _ rfl; (with_reducible repeat (first | refine blk_drewN ?_ _ | refine blk_drew ?_ | refine blk_alloc ?_ _)); refine blk_put (cs := #[.slice Ao66 t170.length co66, .slice none 0 0, .int .i64 0, .bool false]) ?_ 1 _ rfl; (with_reducible repeat (first | refine blk_drewN ?_ _ | refine blk_drew ?_ | refine blk_alloc ?_ _)); refine blk_put (cs := #[.slice none 0 0, .slice none 0 0, .int .i64 0, .bool false]) ?_ 0 _ rfl; (with_reducible repeat (first | refine blk_drewN ?_ _ | refine blk_drew ?_ | refine blk_alloc ?_ _)); exact BK180.out) hb); have n16_ := Aside0.mk (below_step (by repeat (first | (with_reducible first | exact HB.out | apply below_alloc | apply pw_below_drewN | apply below_drew1 | refine below_set ?_ GE138.out | refine below_set ?_ GE180.out) | exact HB.out)) hb); clear HO126; clear HO131; clear HO134; clear HO141; clear HO144; clear HO151; clear HO154; clear HO157; clear HO164; clear HO169; clear HO172; clear HO175; clear BK138; clear BK180; clear HB; have HO126 := n0_; have HO131 := n1_; have HO134 := n2_; have HO141 := n3_; have HO144 := n4_; have HO151 := n5_; have HO154 := n6_; have HO157 := n7_; have HO164 := n8_; have HO169 := n9_; have HO172 := n10_; have HO175 := n11_; have HO183 := n12_; have HO186 := n13_; have BK138 := n14_; have BK180 := n15_; have HB := n16_; clear n0_ n1_ n2_ n3_ n4_ n5_ n6_ n7_ n8_ n9_ n10_ n11_ n12_ n13_ n14_ n15_ n16_; (try clear hb); (try clear hb2); (try clear hk); (try clear hi); (try clear ho0); (try clear ho1)) | ((with_reducible refine gate_dst (N := 17) rfl ?_); (try (refine gate_guard (by rfl) ?_; dsimp only)); refine box_event ?hg (N := 17) ?hd (cs := #[.slice none 0 0, .slice none 0 0, .int .i64 0, .bool false]) (t := 25) ?hr ?_; (case hd => rfl); (case hg => rfl); (case hr => first | (go_simp; done) | (go_simp; rfl)); intro gb190 hg w75 hbox hb; have n0_ := Aside0.mk (Kd.R_below (by (with_reducible repeat (first | apply Kd.R_alloc | apply Kd.R_drewN | apply Kd.R_drew)); exact HO126.out) hb); have n1_ := Aside0.mk (Kd.V_below (Kd.V_elderB (by (with_reducible repeat (first | apply Kd.V_alloc | apply Kd.V_drewN | apply Kd.V_drew)); exact HO131.out) gb190 (Nat.le_of_eq hg.symm)) hb); have n2_ := Aside0.mk (Kd.V_below (Kd.V_elderB (by (with_reducible repeat (first | apply Kd.V_alloc | apply Kd.V_drewN | apply Kd.V_drew)); exact HO134.out) gb190 (Nat.le_of_eq hg.symm)) hb); have n3_ := Aside0.mk (Kd.V_below (Kd.V_elderB (by (with_reducible repeat (first | apply Kd.V_alloc | apply Kd.V_drewN | apply Kd.V_drew)); exact HO141.out) gb190 (Nat.le_of_eq hg.symm)) hb); have n4_ := Aside0.mk (Kd.V_below (Kd.V_elderB (by (with_reducible repeat (first | apply Kd.V_alloc | apply Kd.V_drewN | apply Kd.V_drew)); exact HO144.out) gb190 (Nat.le_of_eq hg.symm)) hb); have n5_ := Aside0.mk (Kd.R_below (by (with_reducible repeat (first | apply Kd.R_alloc | apply Kd.R_drewN | apply Kd.R_drew)); exact HO151.out) hb); have n6_ := Aside0.mk (Kd.V_below (Kd.V_elderB (by (with_reducible repeat (first | apply Kd.V_alloc | apply Kd.V_drewN | apply Kd.V_drew)); exact HO154.out) gb190 (Nat.le_of_eq hg.symm)) hb); have n7_ := Aside0.mk (Kd.V_below (Kd.V_elderB (by (with_reducible repeat (first | apply Kd.V_alloc | apply Kd.V_drewN | apply Kd.V_drew)); exact HO157.out) gb190 (Nat.le_of_eq hg.symm)) hb); have n8_ := Aside0.mk (Kd.V_below (Kd.V_elderB (by (with_reducible repeat (first | apply Kd.V_alloc | apply Kd.V_drewN | apply Kd.V_drew)); exact HO164.out) gb190 (Nat.le_of_eq hg.symm)) hb); have n9_ := Aside0.mk (Kd.R_below (by (with_reducible repeat (first | apply Kd.R_alloc | apply Kd.R_drewN | apply Kd.R_drew)); exact HO169.out) hb); have n10_ := Aside0.mk (Kd.V_below (Kd.V_elderB (by (with_reducible repeat (first | apply Kd.V_alloc | apply Kd.V_drewN | apply Kd.V_drew)); exact HO172.out) gb190 (Nat.le_of_eq hg.symm)) hb); have n11_ := Aside0.mk (Kd.V_below (Kd.V_elderB (by (with_reducible repeat (first | apply Kd.V_alloc | apply Kd.V_drewN | apply Kd.V_drew)); exact HO175.out) gb190 (Nat.le_of_eq hg.symm)) hb); have n12_ := Aside0.mk (Kd.V_below (Kd.V_elderB (by (with_reducible repeat (first | apply Kd.V_alloc | apply Kd.V_drewN | apply Kd.V_drew)); exact HO183.out) gb190 (Nat.le_of_eq hg.symm)) hb); have n13_ := Aside0.mk (Kd.V_below (Kd.V_elderB (by (with_reducible repeat (first | apply Kd.V_alloc | apply Kd.V_drewN | apply Kd.V_drew)); exact HO186.out) gb190 (Nat.le_of_eq hg.symm)) hb); have n14_ := Aside0.mk (blk_below (g := gb138) (o := .cells #[.slice Ao51 t152.length co51, .slice Ao53 t155.length co53, .int .i64 t158, .bool t159] 25 (0, 0)) (by (with_reducible repeat (first | refine blk_drewN ?_ _ | refine blk_drew ?_ | refine blk_alloc ?_ _)); exact BK138.out) hb); have n15_ := Aside0.mk (blk_below (g := gb180) (o := .cells #[.slice Ao66 t170.length co66, .slice Ao68 t173.length co68, .int .i64 t176, .bool t177] 25 (0, 0)) (by (with_reducible repeat (first | refine blk_drewN ?_ _ | refine blk_drew ?_ | refine blk_alloc ?_ _)); exact BK180.out) hb); have n16_ := Aside0.mk (below_step (by repeat (first | (with_reducible first | exact HB.out | apply below_alloc | apply pw_below_drewN | apply below_drew1 | refine below_set ?_ GE138.out | refine below_set ?_ GE180.out) | exact HB.out)) hb); have n17_ := Aside0.mk (hbox); have n18_ := Aside0.mk ((by rw [hg]; exact (below_size (by repeat (first | (with_reducible first | exact HB.out | apply below_alloc | apply pw_below_drewN | apply below_drew1 | refine below_set ?_ GE138.out | refine below_set ?_ GE180.out) | exact HB.out))) : w.heap.size ≤ gb190)); have n19_ := Aside0.mk ((by rw [hg]; exact (below_size (by repeat (first | (with_reducible first | exact HB.out | apply below_alloc | apply pw_below_drewN | apply below_drew1 | refine below_set ?_ GE138.out | refine below_set ?_ GE180.out) | exact HB.out))) : w.heap.size ≤ gb190)); have n20_ := Aside0.mk ((by rw [hg]; exact Nat.ne_of_lt (blk_lt (g := gb138) (o := .cells #[.slice Ao51 t152.length co51, .slice Ao53 t155.length co53, .int .i64 t158, .bool t159] 25 (0, 0)) (by (with_reducible repeat (first | refine blk_drewN ?_ _ | refine blk_drew ?_ | refine blk_alloc ?_ _)); exact BK138.out)) : gb138 ≠ gb190)); have n21_ := Aside0.mk ((by rw [hg]; exact Nat.ne_of_gt (blk_lt (g := gb138) (o := .cells #[.slice Ao51 t152.length co51, .slice Ao53 t155.length co53, .int .i64 t158, .bool t159] 25 (0, 0)) (by (with_reducible repeat (first | refine blk_drewN ?_ _ | refine blk_drew ?_ | refine blk_alloc ?_ _)); exact BK138.out)) : gb190 ≠ gb138)); have n22_ := Aside0.mk ((by rw [hg]; exact Nat.ne_of_lt (blk_lt (g := gb180) (o := .cells #[.slice Ao66 t170.length co66, .slice Ao68 t173.length co68, .int .i64 t176, .bool t177] 25 (0, 0)) (by (with_reducible repeat (first | refine blk_drewN ?_ _ | refine blk_drew ?_ | refine blk_alloc ?_ _)); exact BK180.out)) : gb180 ≠ gb190)); have n23_ := Aside0.mk ((by rw [hg]; exact Nat.ne_of_gt (blk_lt (g := gb180) (o := .cells #[.slice Ao66 t170.length co66, .slice Ao68 t173.length co68, .int .i64 t176, .bool t177] 25 (0, 0)) (by (with_reducible repeat (first | refine blk_drewN ?_ _ | refine blk_drew ?_ | refine blk_alloc ?_ _)); exact BK180.out)) : gb190 ≠ gb180)); clear HO126; clear HO131; clear HO134; clear HO141; clear HO144; clear HO151; clear HO154; clear HO157; clear HO164; clear HO169; clear HO172; clear HO175; clear HO183; clear HO186; clear BK138; clear BK180; clear HB; have HO126 := n0_; have HO131 := n1_; have HO134 := n2_; have HO141 := n3_; have HO144 := n4_; have HO151 := n5_; have HO154 := n6_; have HO157 := n7_; have HO164 := n8_; have HO169 := n9_; have HO172 := n10_; have HO175 := n11_; have HO183 := n12_; have HO186 := n13_; have BK138 := n14_; have BK180 := n15_; have HB := n16_; have BK190 := n17_; have GW190 := n18_; have GE190 := n19_; have NB138_190 := n20_; have NB190_138 := n21_; have NB180_190 := n22_; have NB190_180 := n23_; clear n0_ n1_ n2_ n3_ n4_ n5_ n6_ n7_ n8_ n9_ n10_ n11_ n12_ n13_ n14_ n15_ n16_ n17_ n18_ n19_ n20_ n21_ n22_ n23_; clear hb hbox hg; obtain ⟨Ao76, co76, eo76⟩ := Kd.V_slice HO183.out; subst eo76; have hnb77 := NB190_138.out; have hnc77 := NB138_190.out; have hnb78 := NB190_180.out; have hnc78 := NB180_190.out; have hcz79_0 : w75.cell? ⟨gb190, 0, none⟩ = some (.slice none 0 0) := (blk_cell BK190.out 0).trans rfl; have hcz79_1 : w75.cell? ⟨gb190, 1, none⟩ = some (.slice none 0 0) := (blk_cell BK190.out 1).trans rfl; have hcz79_2 : w75.cell? ⟨gb190, 2, none⟩ = some (.int .i64 0) := (blk_cell BK190.out 2).trans rfl; have hcz79_3 : w75.cell? ⟨gb190, 3, none⟩ = some (.bool false) := (blk_cell BK190.out 3).trans rfl; have hfz79_0 := blk_frozen BK190.out 0; have hfz79_1 := blk_frozen BK190.out 1; have hfz79_2 := blk_frozen BK190.out 2; have hfz79_3 := blk_frozen BK190.out 3; obtain ⟨Ao80, co80, eo80⟩ := Kd.V_slice HO186.out; subst eo80) | ((with_reducible refine gate_callee (f := 9) rfl ?_); refine goesL_ (some 76) rfl rfl Tryd.func9 (by kernel_rfl) rfl #[.agg #[.slice Ao76 t181.length co76, .slice Ao80 t184.length co80, .int .i64 t187, .bool t188], .int .i64 2, .int .i64 5] rfl (by (try simp only [List.map_toArray, List.map_cons, List.map_nil]); first | done | rfl | (simp only [List.length_drop, List.length_take]; rfl)) ?_; (with_reducible refine (trail_Read.calls _ _ t181 _ _ t184 t187 t188 2 5 t191 t194 t195 _ ?side1 ?side2 ?side3 ?side4 A11.out).mono ?_); (case side1 => refine (Kd.V_reads' (e := 9) (base := w.heap.size) (ok := fun k_ => ((some k_ ≠ (v125 : Value).ownBlock ∧ (some k_ ≠ (v150 : Value).ownBlock ∧ (some k_ ≠ (v168 : Value).ownBlock ∧ (k_ ≠ gb138 ∧ k_ ≠ gb180)))) ∧ k_ ≠ gb190)) (n := t181.length) (c := co76) ?_).2.2; exact (by (with_reducible repeat (first | apply Kd.V_alloc | apply Kd.V_drewN | apply Kd.V_drew)); exact (Kd.V_mono (Kd.V_far (p := ⟨gb190, 3, none⟩) (Kd.V_far (p := ⟨gb190, 2, none⟩) (Kd.V_far (p := ⟨gb190, 1, none⟩) (Kd.V_far (p := ⟨gb190, 0, none⟩) (Kd.V_mono HO183.out (fun k_ hk => (⟨hk, hk.2⟩ : _ ∧ k_ ≠ gb190))) (fun _ hk => hk.2) (.slice Ao76 t181.length co76)) (fun _ hk => hk.2) (.slice Ao80 t184.length co80)) (fun _ hk => hk.2) (.int .i64 t187)) (fun _ hk => hk.2) (.bool t188)) (fun _ h_ => h_.1)))); (case side2 => exact (Kd.V_reads' HO183.out).2.1); (case side3 => refine (Kd.V_reads' (e := 60) (base := w.heap.size) (ok := fun k_ => ((some k_ ≠ (v125 : Value).ownBlock ∧ (some k_ ≠ (v150 : Value).ownBlock ∧ (some k_ ≠ (v168 : Value).ownBlock ∧ (k_ ≠ gb138 ∧ k_ ≠ gb180)))) ∧ k_ ≠ gb190)) (n := t184.length) (c := co80) ?_).2.2; exact (by (with_reducible repeat (first | apply Kd.V_alloc | apply Kd.V_drewN | apply Kd.V_drew)); exact (Kd.V_mono (Kd.V_far (p := ⟨gb190, 3, none⟩) (Kd.V_far (p := ⟨gb190, 2, none⟩) (Kd.V_far (p := ⟨gb190, 1, none⟩) (Kd.V_far (p := ⟨gb190, 0, none⟩) (Kd.V_mono HO186.out (fun k_ hk => (⟨hk, hk.2⟩ : _ ∧ k_ ≠ gb190))) (fun _ hk => hk.2) (.slice Ao76 t181.length co76)) (fun _ hk => hk.2) (.slice Ao80 t184.length co80)) (fun _ hk => hk.2) (.int .i64 t187)) (fun _ hk => hk.2) (.bool t188)) (fun _ h_ => h_.1)))); (case side4 => exact (Kd.V_reads' HO186.out).2.1); rintro e w81 ⟨v192, rfl, ho0, hb⟩; refine ⟨_, rfl, ?_⟩; have n0_ := Aside0.mk (Kd.R_below (by (with_reducible repeat (first | apply Kd.R_alloc | apply Kd.R_drewN | apply Kd.R_drew)); exact (Kd.R_mono (Kd.R_far (p := ⟨gb190, 3, none⟩) (Kd.R_far (p := ⟨gb190, 2, none⟩) (Kd.R_far (p := ⟨gb190, 1, none⟩) (Kd.R_far (p := ⟨gb190, 0, none⟩) (Kd.R_types HO126.out BK190.out (by decide)) (fun _ hk => hk.2) (.slice Ao76 t181.length co76)) (fun _ hk => hk.2) (.slice Ao80 t184.length co80)) (fun _ hk => hk.2) (.int .i64 t187)) (fun _ hk => hk.2) (.bool t188)) (fun _ h_ => h_.1))) hb); have n1_ := Aside0.mk (Kd.V_below (by (with_reducible repeat (first | apply Kd.V_alloc | apply Kd.V_drewN | apply Kd.V_drew)); exact (Kd.V_mono (Kd.V_far (p := ⟨gb190, 3, none⟩) (Kd.V_far (p := ⟨gb190, 2, none⟩) (Kd.V_far (p := ⟨gb190, 1, none⟩) (Kd.V_far (p := ⟨gb190, 0, none⟩) (Kd.V_mono HO131.out (fun k_ hk => (⟨hk, hk.2⟩ : _ ∧ k_ ≠ gb190))) (fun _ hk => hk.2) (.slice Ao76 t181.length co76)) (fun _ hk => hk.2) (.slice Ao80 t184.length co80)) (fun _ hk => hk.2) (.int .i64 t187)) (fun _ hk => hk.2) (.bool t188)) (fun _ h_ => h_.1))) hb); have n2_ := Aside0.mk (Kd.V_below (by (with_reducible repeat (first | apply Kd.V_alloc | apply Kd.V_drewN | apply Kd.V_drew)); exact (Kd.V_mono (Kd.V_far (p := ⟨gb190, 3, none⟩) (Kd.V_far (p := ⟨gb190, 2, none⟩) (Kd.V_far (p := ⟨gb190, 1, none⟩) (Kd.V_far (p := ⟨gb190, 0, none⟩) (Kd.V_mono HO134.out (fun k_ hk => (⟨hk, hk.2⟩ : _ ∧ k_ ≠ gb190))) (fun _ hk => hk.2) (.slice Ao76 t181.length co76)) (fun _ hk => hk.2) (.slice Ao80 t184.length co80)) (fun _ hk => hk.2) (.int .i64 t187)) (fun _ hk => hk.2) (.bool t188)) (fun _ h_ => h_.1))) hb); have n3_ := Aside0.mk (Kd.V_below (by (with_reducible repeat (first | apply Kd.V_alloc | apply Kd.V_drewN | apply Kd.V_drew)); exact (Kd.V_mono (Kd.V_far (p := ⟨gb190, 3, none⟩) (Kd.V_far (p := ⟨gb190, 2, none⟩) (Kd.V_far (p := ⟨gb190, 1, none⟩) (Kd.V_far (p := ⟨gb190, 0, none⟩) (Kd.V_mono HO141.out (fun k_ hk => (⟨hk, hk.2⟩ : _ ∧ k_ ≠ gb190))) (fun _ hk => hk.2) (.slice Ao76 t181.length co76)) (fun _ hk => hk.2) (.slice Ao80 t184.length co80)) (fun _ hk => hk.2) (.int .i64 t187)) (fun _ hk => hk.2) (.bool t188)) (fun _ h_ => h_.1))) hb); have n4_ := Aside0.mk (Kd.V_below (by (with_reducible repeat (first | apply Kd.V_alloc | apply Kd.V_drewN | apply Kd.V_drew)); exact (Kd.V_mono (Kd.V_far (p := ⟨gb190, 3, none⟩) (Kd.V_far (p := ⟨gb190, 2, none⟩) (Kd.V_far (p := ⟨gb190, 1, none⟩) (Kd.V_far (p := ⟨gb190, 0, none⟩) (Kd.V_mono HO144.out (fun k_ hk => (⟨hk, hk.2⟩ : _ ∧ k_ ≠ gb190))) (fun _ hk => hk.2) (.slice Ao76 t181.length co76)) (fun _ hk => hk.2) (.slice Ao80 t184.length co80)) (fun _ hk => hk.2) (.int .i64 t187)) (fun _ hk => hk.2) (.bool t188)) (fun _ h_ => h_.1))) hb); have n5_ := Aside0.mk (Kd.R_below (by (with_reducible repeat (first | apply Kd.R_alloc | apply Kd.R_drewN | apply Kd.R_drew)); exact (Kd.R_mono (Kd.R_far (p := ⟨gb190, 3, none⟩) (Kd.R_far (p := ⟨gb190, 2, none⟩) (Kd.R_far (p := ⟨gb190, 1, none⟩) (Kd.R_far (p := ⟨gb190, 0, none⟩) (Kd.R_types HO151.out BK190.out (by decide)) (fun _ hk => hk.2) (.slice Ao76 t181.length co76)) (fun _ hk => hk.2) (.slice Ao80 t184.length co80)) (fun _ hk => hk.2) (.int .i64 t187)) (fun _ hk => hk.2) (.bool t188)) (fun _ h_ => h_.1))) hb); have n6_ := Aside0.mk (Kd.V_below (by (with_reducible repeat (first | apply Kd.V_alloc | apply Kd.V_drewN | apply Kd.V_drew)); exact (Kd.V_mono (Kd.V_far (p := ⟨gb190, 3, none⟩) (Kd.V_far (p := ⟨gb190, 2, none⟩) (Kd.V_far (p := ⟨gb190, 1, none⟩) (Kd.V_far (p := ⟨gb190, 0, none⟩) (Kd.V_mono HO154.out (fun k_ hk => (⟨hk, hk.2⟩ : _ ∧ k_ ≠ gb190))) (fun _ hk => hk.2) (.slice Ao76 t181.length co76)) (fun _ hk => hk.2) (.slice Ao80 t184.length co80)) (fun _ hk => hk.2) (.int .i64 t187)) (fun _ hk => hk.2) (.bool t188)) (fun _ h_ => h_.1))) hb); have n7_ := Aside0.mk (Kd.V_below (by (with_reducible repeat (first | apply Kd.V_alloc | apply Kd.V_drewN | apply Kd.V_drew)); exact (Kd.V_mono (Kd.V_far (p := ⟨gb190, 3, none⟩) (Kd.V_far (p := ⟨gb190, 2, none⟩) (Kd.V_far (p := ⟨gb190, 1, none⟩) (Kd.V_far (p := ⟨gb190, 0, none⟩) (Kd.V_mono HO157.out (fun k_ hk => (⟨hk, hk.2⟩ : _ ∧ k_ ≠ gb190))) (fun _ hk => hk.2) (.slice Ao76 t181.length co76)) (fun _ hk => hk.2) (.slice Ao80 t184.length co80)) (fun _ hk => hk.2) (.int .i64 t187)) (fun _ hk => hk.2) (.bool t188)) (fun _ h_ => h_.1))) hb); have n8_ := Aside0.mk (Kd.V_below (by (with_reducible repeat (first | apply Kd.V_alloc | apply Kd.V_drewN | apply Kd.V_drew)); exact (Kd.V_mono (Kd.V_far (p := ⟨gb190, 3, none⟩) (Kd.V_far (p := ⟨gb190, 2, none⟩) (Kd.V_far (p := ⟨gb190, 1, none⟩) (Kd.V_far (p := ⟨gb190, 0, none⟩) (Kd.V_mono HO164.out (fun k_ hk => (⟨hk, hk.2⟩ : _ ∧ k_ ≠ gb190))) (fun _ hk => hk.2) (.slice Ao76 t181.length co76)) (fun _ hk => hk.2) (.slice Ao80 t184.length co80)) (fun _ hk => hk.2) (.int .i64 t187)) (fun _ hk => hk.2) (.bool t188)) (fun _ h_ => h_.1))) hb); have n9_ := Aside0.mk (Kd.R_below (by (with_reducible repeat (first | apply Kd.R_alloc | apply Kd.R_drewN | apply Kd.R_drew)); exact (Kd.R_mono (Kd.R_far (p := ⟨gb190, 3, none⟩) (Kd.R_far (p := ⟨gb190, 2, none⟩) (Kd.R_far (p := ⟨gb190, 1, none⟩) (Kd.R_far (p := ⟨gb190, 0, none⟩) (Kd.R_types HO169.out BK190.out (by decide)) (fun _ hk => hk.2) (.slice Ao76 t181.length co76)) (fun _ hk => hk.2) (.slice Ao80 t184.length co80)) (fun _ hk => hk.2) (.int .i64 t187)) (fun _ hk => hk.2) (.bool t188)) (fun _ h_ => h_.1))) hb); have n10_ := Aside0.mk (Kd.V_below (by (with_reducible repeat (first | apply Kd.V_alloc | apply Kd.V_drewN | apply Kd.V_drew)); exact (Kd.V_mono (Kd.V_far (p := ⟨gb190, 3, none⟩) (Kd.V_far (p := ⟨gb190, 2, none⟩) (Kd.V_far (p := ⟨gb190, 1, none⟩) (Kd.V_far (p := ⟨gb190, 0, none⟩) (Kd.V_mono HO172.out (fun k_ hk => (⟨hk, hk.2⟩ : _ ∧ k_ ≠ gb190))) (fun _ hk => hk.2) (.slice Ao76 t181.length co76)) (fun _ hk => hk.2) (.slice Ao80 t184.length co80)) (fun _ hk => hk.2) (.int .i64 t187)) (fun _ hk => hk.2) (.bool t188)) (fun _ h_ => h_.1))) hb); have n11_ := Aside0.mk (Kd.V_below (by (with_reducible repeat (first | apply Kd.V_alloc | apply Kd.V_drewN | apply Kd.V_drew)); exact (Kd.V_mono (Kd.V_far (p := ⟨gb190, 3, none⟩) (Kd.V_far (p := ⟨gb190, 2, none⟩) (Kd.V_far (p := ⟨gb190, 1, none⟩) (Kd.V_far (p := ⟨gb190, 0, none⟩) (Kd.V_mono HO175.out (fun k_ hk => (⟨hk, hk.2⟩ : _ ∧ k_ ≠ gb190))) (fun _ hk => hk.2) (.slice Ao76 t181.length co76)) (fun _ hk => hk.2) (.slice Ao80 t184.length co80)) (fun _ hk => hk.2) (.int .i64 t187)) (fun _ hk => hk.2) (.bool t188)) (fun _ h_ => h_.1))) hb); have n12_ := Aside0.mk (Kd.V_below (by (with_reducible repeat (first | apply Kd.V_alloc | apply Kd.V_drewN | apply Kd.V_drew)); exact (Kd.V_mono (Kd.V_far (p := ⟨gb190, 3, none⟩) (Kd.V_far (p := ⟨gb190, 2, none⟩) (Kd.V_far (p := ⟨gb190, 1, none⟩) (Kd.V_far (p := ⟨gb190, 0, none⟩) (Kd.V_mono HO183.out (fun k_ hk => (⟨hk, hk.2⟩ : _ ∧ k_ ≠ gb190))) (fun _ hk => hk.2) (.slice Ao76 t181.length co76)) (fun _ hk => hk.2) (.slice Ao80 t184.length co80)) (fun _ hk => hk.2) (.int .i64 t187)) (fun _ hk => hk.2) (.bool t188)) (fun _ h_ => h_.1))) hb); have n13_ := Aside0.mk (Kd.V_below (by (with_reducible repeat (first | apply Kd.V_alloc | apply Kd.V_drewN | apply Kd.V_drew)); exact (Kd.V_mono (Kd.V_far (p := ⟨gb190, 3, none⟩) (Kd.V_far (p := ⟨gb190, 2, none⟩) (Kd.V_far (p := ⟨gb190, 1, none⟩) (Kd.V_far (p := ⟨gb190, 0, none⟩) (Kd.V_mono HO186.out (fun k_ hk => (⟨hk, hk.2⟩ : _ ∧ k_ ≠ gb190))) (fun _ hk => hk.2) (.slice Ao76 t181.length co76)) (fun _ hk => hk.2) (.slice Ao80 t184.length co80)) (fun _ hk => hk.2) (.int .i64 t187)) (fun _ hk => hk.2) (.bool t188)) (fun _ h_ => h_.1))) hb); have n14_ := Aside0.mk (Kd.V_lower (Kd.V_mono (ok' := fun k_ => some k_ ≠ (v125 : Value).ownBlock ∧ some k_ ≠ (v150 : Value).ownBlock ∧ some k_ ≠ (v168 : Value).ownBlock ∧ k_ ≠ gb138 ∧ k_ ≠ gb180 ∧ k_ ≠ gb190) ho0 (fun k_ hk_ => ⟨(Kd.fresh' (Kd.R_lt (by (with_reducible repeat (first | apply Kd.R_alloc | apply Kd.R_drewN | apply Kd.R_drew)); exact (Kd.R_mono (Kd.R_far (p := ⟨gb190, 3, none⟩) (Kd.R_far (p := ⟨gb190, 2, none⟩) (Kd.R_far (p := ⟨gb190, 1, none⟩) (Kd.R_far (p := ⟨gb190, 0, none⟩) (Kd.R_types HO126.out BK190.out (by decide)) (fun _ hk => hk.2) (.slice Ao76 t181.length co76)) (fun _ hk => hk.2) (.slice Ao80 t184.length co80)) (fun _ hk => hk.2) (.int .i64 t187)) (fun _ hk => hk.2) (.bool t188)) (fun _ h_ => h_.1)))) k_ hk_), (Kd.fresh' (Kd.R_lt (by (with_reducible repeat (first | apply Kd.R_alloc | apply Kd.R_drewN | apply Kd.R_drew)); exact (Kd.R_mono (Kd.R_far (p := ⟨gb190, 3, none⟩) (Kd.R_far (p := ⟨gb190, 2, none⟩) (Kd.R_far (p := ⟨gb190, 1, none⟩) (Kd.R_far (p := ⟨gb190, 0, none⟩) (Kd.R_types HO151.out BK190.out (by decide)) (fun _ hk => hk.2) (.slice Ao76 t181.length co76)) (fun _ hk => hk.2) (.slice Ao80 t184.length co80)) (fun _ hk => hk.2) (.int .i64 t187)) (fun _ hk => hk.2) (.bool t188)) (fun _ h_ => h_.1)))) k_ hk_), (Kd.fresh' (Kd.R_lt (by (with_reducible repeat (first | apply Kd.R_alloc | apply Kd.R_drewN | apply Kd.R_drew)); exact (Kd.R_mono (Kd.R_far (p := ⟨gb190, 3, none⟩) (Kd.R_far (p := ⟨gb190, 2, none⟩) (Kd.R_far (p := ⟨gb190, 1, none⟩) (Kd.R_far (p := ⟨gb190, 0, none⟩) (Kd.R_types HO169.out BK190.out (by decide)) (fun _ hk => hk.2) (.slice Ao76 t181.length co76)) (fun _ hk => hk.2) (.slice Ao80 t184.length co80)) (fun _ hk => hk.2) (.int .i64 t187)) (fun _ hk => hk.2) (.bool t188)) (fun _ h_ => h_.1)))) k_ hk_), (Kd.freshB (g := gb138) (o := .cells #[.slice Ao51 t152.length co51, .slice Ao53 t155.length co53, .int .i64 t158, .bool t159] 25 (0, 0)) (by (with_reducible repeat (first | refine blk_drewN ?_ _ | refine blk_drew ?_ | refine blk_alloc ?_ _)); refine blk_far ?_ NB138_190.out _; (with_reducible repeat (first | refine blk_drewN ?_ _ | refine blk_drew ?_ | refine blk_alloc ?_ _)); refine blk_far ?_ NB138_190.out _; (with_reducible repeat (first | refine blk_drewN ?_ _ | refine blk_drew ?_ | refine blk_alloc ?_ _)); refine blk_far ?_ NB138_190.out _; (with_reducible repeat (first | refine blk_drewN ?_ _ | refine blk_drew ?_ | refine blk_alloc ?_ _)); refine blk_far ?_ NB138_190.out _; (with_reducible repeat (first | refine blk_drewN ?_ _ | refine blk_drew ?_ | refine blk_alloc ?_ _)); exact BK138.out) k_ hk_), (Kd.freshB (g := gb180) (o := .cells #[.slice Ao66 t170.length co66, .slice Ao68 t173.length co68, .int .i64 t176, .bool t177] 25 (0, 0)) (by (with_reducible repeat (first | refine blk_drewN ?_ _ | refine blk_drew ?_ | refine blk_alloc ?_ _)); refine blk_far ?_ NB180_190.out _; (with_reducible repeat (first | refine blk_drewN ?_ _ | refine blk_drew ?_ | refine blk_alloc ?_ _)); refine blk_far ?_ NB180_190.out _; (with_reducible repeat (first | refine blk_drewN ?_ _ | refine blk_drew ?_ | refine blk_alloc ?_ _)); refine blk_far ?_ NB180_190.out _; (with_reducible repeat (first | refine blk_drewN ?_ _ | refine blk_drew ?_ | refine blk_alloc ?_ _)); refine blk_far ?_ NB180_190.out _; (with_reducible repeat (first | refine blk_drewN ?_ _ | refine blk_drew ?_ | refine blk_alloc ?_ _)); exact BK180.out) k_ hk_), (Kd.freshB (g := gb190) (o := .cells #[.slice Ao76 t181.length co76, .slice Ao80 t184.length co80, .int .i64 t187, .bool t188] 25 (0, 0)) (by (with_reducible repeat (first | refine blk_drewN ?_ _ | refine blk_drew ?_ | refine blk_alloc ?_ _)); refine blk_put (cs := #[.slice Ao76 t181.length co76, .slice Ao80 t184.length co80, .int .i64 t187, .bool false]) ?_ 3 _ rfl; (with_reducible repeat (first | refine blk_drewN ?_ _ | refine blk_drew ?_ | refine blk_alloc ?_ _)); refine blk_put (cs := #[.slice Ao76 t181.length co76, .slice Ao80 t184.length co80, .int .i64 0, .bool false]) ?_ 2 _ rfl; (with_reducible repeat (first | refine blk_drewN ?_ _ | refine blk_drew ?_ | refine blk_alloc ?_ _)); refine blk_put (cs := #[.slice Ao76 t181.length co76, .slice none 0 0, .int .i64 0, .bool false]) ?_ 1 _ rfl; (with_reducible repeat (first | refine blk_drewN ?_ _ | refine blk_drew ?_ | refine blk_alloc ?_ _)); refine blk_put (cs := #[.slice none 0 0, .slice none 0 0, .int .i64 0, .bool false]) ?_ 0 _ rfl; (with_reducible repeat (first | refine blk_drewN ?_ _ | refine blk_drew ?_ | refine blk_alloc ?_ _)); exact BK190.out) k_ hk_)⟩)) (below_size (by repeat (first | (with_reducible first | exact HB.out | apply below_alloc | apply pw_below_drewN | apply below_drew1 | refine below_set ?_ GE138.out | refine below_set ?_ GE180.out | refine below_set ?_ GE190.out) | exact HB.out)))); have n15_ := Aside0.mk (blk_below (g := gb138) (o := .cells #[.slice Ao51 t152.length co51, .slice Ao53 t155.length co53, .int .i64 t158, .bool t159] 25 (0, 0)) (by (with_reducible repeat (first | refine blk_drewN ?_ _ | refine blk_drew ?_ | refine blk_alloc ?_ _)); refine blk_far ?_ NB138_190.out _; (with_reducible repeat (first | refine blk_drewN ?_ _ | refine blk_drew ?_ | refine blk_alloc ?_ _)); refine blk_far ?_ NB138_190.out _; (with_reducible repeat (first | refine blk_drewN ?_ _ | refine blk_drew ?_ | refine blk_alloc ?_ _)); refine blk_far ?_ NB138_190.out _; (with_reducible repeat (first | refine blk_drewN ?_ _ | refine blk_drew ?_ | refine blk_alloc ?_ _)); refine blk_far ?_ NB138_190.out _; (with_reducible repeat (first | refine blk_drewN ?_ _ | refine blk_drew ?_ | refine blk_alloc ?_ _)); exact BK138.out) hb); have n16_ := Aside0.mk (blk_below (g := gb180) (o := .cells #[.slice Ao66 t170.length co66, .slice Ao68 t173.length co68, .int .i64 t176, .bool t177] 25 (0, 0)) (by (with_reducible repeat (first | refine blk_drewN ?_ _ | refine blk_drew ?_ | refine blk_alloc ?_ _)); refine blk_far ?_ NB180_190.out _; (with_reducible repeat (first | refine blk_drewN ?_ _ | refine blk_drew ?_ | refine blk_alloc ?_ _)); refine blk_far ?_ NB180_190.out _; (with_reducible repeat (first | refine blk_drewN ?_ _ | refine blk_drew ?_ | refine blk_alloc ?_ _)); refine blk_far ?_ NB180_190.out _; (with_reducible repeat (first | refine blk_drewN ?_ _ | refine blk_drew ?_ | refine blk_alloc ?_ _)); refine blk_far ?_ NB180_190.out _; (with_reducible repeat (first | refine blk_drewN ?_ _ | refine blk_drew ?_ | refine blk_alloc ?_ _)); exact BK180.out) hb); have n17_ := Aside0.mk (blk_below (g := gb190) (o := .cells #[.slice Ao76 t181.length co76, .slice Ao80 t184.length co80, .int .i64 t187, .bool t188] 25 (0, 0)) (by (with_reducible repeat (first | refine blk_drewN ?_ _ | refine blk_drew ?_ | refine blk_alloc ?_ _)); refine blk_put (cs := #[.slice Ao76 t181.length co76, .slice Ao80 t184.length co80, .int .i64 t187, .bool false]) ?_ 3 _ rfl; (with_reducible repeat (first | refine blk_drewN ?_ _ | refine blk_drew ?_ | refine blk_alloc ?_ _)); refine blk_put (cs := #[.slice Ao76 t181.length co76, .slice Ao80 t184.length co80, .int .i64 0, .bool false]) ?_ 2 _ rfl; (with_reducible repeat (first | refine blk_drewN ?_ _ | refine blk_drew ?_ | refine blk_alloc ?_ _)); refine blk_put (cs := #[.slice Ao76 t181.length co76, .slice none 0 0, .int .i64 0, .bool false]) ?_ 1 _ rfl; (with_reducible repeat (first | refine blk_drewN ?_ _ | refine blk_drew ?_ | refine blk_alloc ?_ _)); refine blk_put (cs := #[.slice none 0 0, .slice none 0 0, .int .i64 0, .bool false]) ?_ 0 _ rfl; (with_reducible repeat (first | refine blk_drewN ?_ _ | refine blk_drew ?_ | refine blk_alloc ?_ _)); exact BK190.out) hb); have n18_ := Aside0.mk (below_step (by repeat (first | (with_reducible first | exact HB.out | apply below_alloc | apply pw_below_drewN | apply below_drew1 | refine below_set ?_ GE138.out | refine below_set ?_ GE180.out | refine below_set ?_ GE190.out) | exact HB.out)) hb); clear HO126; clear HO131; clear HO134; clear HO141; clear HO144; clear HO151; clear HO154; clear HO157; clear HO164; clear HO169; clear HO172; clear HO175; clear HO183; clear HO186; clear BK138; clear BK180; clear BK190; clear HB; have HO126 := n0_; have HO131 := n1_; have HO134 := n2_; have HO141 := n3_; have HO144 := n4_; have HO151 := n5_; have HO154 := n6_; have HO157 := n7_; have HO164 := n8_; have HO169 := n9_; have HO172 := n10_; have HO175 := n11_; have HO183 := n12_; have HO186 := n13_; have HO193 := n14_; have BK138 := n15_; have BK180 := n16_; have BK190 := n17_; have HB := n18_; clear n0_ n1_ n2_ n3_ n4_ n5_ n6_ n7_ n8_ n9_ n10_ n11_ n12_ n13_ n14_ n15_ n16_ n17_ n18_; (try clear hb); (try clear hb2); (try clear hk); (try clear hi); (try clear ho0); have hcz82_0 : w81.cell? ⟨gb138, 0, none⟩ = some (.slice Ao51 t152.length co51) := (blk_cell BK138.out 0).trans rfl; have hcz82_1 : w81.cell? ⟨gb138, 1, none⟩ = some (.slice Ao53 t155.length co53) := (blk_cell BK138.out 1).trans rfl; have hcz82_2 : w81.cell? ⟨gb138, 2, none⟩ = some (.int .i64 t158) := (blk_cell BK138.out 2).trans rfl; have hcz82_3 : w81.cell? ⟨gb138, 3, none⟩ = some (.bool t159) := (blk_cell BK138.out 3).trans rfl; have hfz82_0 := blk_frozen BK138.out 0; have hfz82_1 := blk_frozen BK138.out 1; have hfz82_2 := blk_frozen BK138.out 2; have hfz82_3 := blk_frozen BK138.out 3) | ((with_reducible refine gate_callee (f := 9) rfl ?_); refine goesL_ (some 82) rfl rfl Tryd.func9 (by kernel_rfl) rfl #[.agg #[.slice Ao51 t152.length co51, .slice Ao53 t155.length co53, .int .i64 t158, .bool t159], .int .i64 4, .int .i64 5] rfl (by (try simp only [List.map_toArray, List.map_cons, List.map_nil]); first | done | rfl | (simp only [List.length_drop, List.length_take]; rfl)) ?_; (with_reducible refine (trail_Read.calls _ _ t152 _ _ t155 t158 t159 4 5 t196 t199 t200 _ ?side1 ?side2 ?side3 ?side4 A12.out).mono ?_); (case side1 => repeat (first | exact (Kd.V_reads' HO154.out).2.2 | (with_reducible refine Kd.C_alloc ?_ _) | (with_reducible refine Kd.C_drewN ?_ _) | (with_reducible refine Kd.C_drew ?_))); (case side2 => exact (Kd.V_reads' HO154.out).2.1); (case side3 => repeat (first | exact (Kd.V_reads' HO157.out).2.2 | (with_reducible refine Kd.C_alloc ?_ _) | (with_reducible refine Kd.C_drewN ?_ _) | (with_reducible refine Kd.C_drew ?_))); (case side4 => exact (Kd.V_reads' HO157.out).2.1); rintro e w83 ⟨v197, rfl, ho0, hb⟩; refine ⟨_, rfl, ?_⟩; have n0_ := Aside0.mk (Kd.R_below (by (with_reducible repeat (first | apply Kd.R_alloc | apply Kd.R_drewN | apply Kd.R_drew)); exact HO126.out) hb); have n1_ := Aside0.mk (Kd.V_below (by (with_reducible repeat (first | apply Kd.V_alloc | apply Kd.V_drewN | apply Kd.V_drew)); exact HO131.out) hb); have n2_ := Aside0.mk (Kd.V_below (by (with_reducible repeat (first | apply Kd.V_alloc | apply Kd.V_drewN | apply Kd.V_drew)); exact HO134.out) hb); have n3_ := Aside0.mk (Kd.V_below (by (with_reducible repeat (first | apply Kd.V_alloc | apply Kd.V_drewN | apply Kd.V_drew)); exact HO141.out) hb); have n4_ := Aside0.mk (Kd.V_below (by (with_reducible repeat (first | apply Kd.V_alloc | apply Kd.V_drewN | apply Kd.V_drew)); exact HO144.out) hb); have n5_ := Aside0.mk (Kd.R_below (by (with_reducible repeat (first | apply Kd.R_alloc | apply Kd.R_drewN | apply Kd.R_drew)); exact HO151.out) hb); have n6_ := Aside0.mk (Kd.V_below (by (with_reducible repeat (first | apply Kd.V_alloc | apply Kd.V_drewN | apply Kd.V_drew)); exact HO154.out) hb); have n7_ := Aside0.mk (Kd.V_below (by (with_reducible repeat (first | apply Kd.V_alloc | apply Kd.V_drewN | apply Kd.V_drew)); exact HO157.out) hb); have n8_ := Aside0.mk (Kd.V_below (by (with_reducible repeat (first | apply Kd.V_alloc | apply Kd.V_drewN | apply Kd.V_drew)); exact HO164.out) hb); have n9_ := Aside0.mk (Kd.R_below (by (with_reducible repeat (first | apply Kd.R_alloc | apply Kd.R_drewN | apply Kd.R_drew)); exact HO169.out) hb); have n10_ := Aside0.mk (Kd.V_below (by (with_reducible repeat (first | apply Kd.V_alloc | apply Kd.V_drewN | apply Kd.V_drew)); exact HO172.out) hb); have n11_ := Aside0.mk (Kd.V_below (by (with_reducible repeat (first | apply Kd.V_alloc | apply Kd.V_drewN | apply Kd.V_drew)); exact HO175.out) hb); have n12_ := Aside0.mk (Kd.V_below (by (with_reducible repeat (first | apply Kd.V_alloc | apply Kd.V_drewN | apply Kd.V_drew)); exact HO183.out) hb); have n13_ := Aside0.mk (Kd.V_below (by (with_reducible repeat (first | apply Kd.V_alloc | apply Kd.V_drewN | apply Kd.V_drew)); exact HO186.out) hb); have n14_ := Aside0.mk (Kd.V_below (by (with_reducible repeat (first | apply Kd.V_alloc | apply Kd.V_drewN | apply Kd.V_drew)); exact HO193.out) hb); have n15_ := Aside0.mk (Kd.V_lower (Kd.V_mono (ok' := fun k_ => some k_ ≠ (v125 : Value).ownBlock ∧ some k_ ≠ (v150 : Value).ownBlock ∧ some k_ ≠ (v168 : Value).ownBlock ∧ k_ ≠ gb138 ∧ k_ ≠ gb180 ∧ k_ ≠ gb190) ho0 (fun k_ hk_ => ⟨(Kd.fresh' (Kd.R_lt (by (with_reducible repeat (first | apply Kd.R_alloc | apply Kd.R_drewN | apply Kd.R_drew)); exact HO126.out)) k_ hk_), (Kd.fresh' (Kd.R_lt (by (with_reducible repeat (first | apply Kd.R_alloc | apply Kd.R_drewN | apply Kd.R_drew)); exact HO151.out)) k_ hk_), (Kd.fresh' (Kd.R_lt (by (with_reducible repeat (first | apply Kd.R_alloc | apply Kd.R_drewN | apply Kd.R_drew)); exact HO169.out)) k_ hk_), (Kd.freshB (g := gb138) (o := .cells #[.slice Ao51 t152.length co51, .slice Ao53 t155.length co53, .int .i64 t158, .bool t159] 25 (0, 0)) (by (with_reducible repeat (first | refine blk_drewN ?_ _ | refine blk_drew ?_ | refine blk_alloc ?_ _)); exact BK138.out) k_ hk_), (Kd.freshB (g := gb180) (o := .cells #[.slice Ao66 t170.length co66, .slice Ao68 t173.length co68, .int .i64 t176, .bool t177] 25 (0, 0)) (by (with_reducible repeat (first | refine blk_drewN ?_ _ | refine blk_drew ?_ | refine blk_alloc ?_ _)); exact BK180.out) k_ hk_), (Kd.freshB (g := gb190) (o := .cells #[.slice Ao76 t181.length co76, .slice Ao80 t184.length co80, .int .i64 t187, .bool t188] 25 (0, 0)) (by (with_reducible repeat (first | refine blk_drewN ?_ _ | refine blk_drew ?_ | refine blk_alloc ?_ _)); exact BK190.out) k_ hk_)⟩)) (below_size (by repeat (first | (with_reducible first | exact HB.out | apply below_alloc | apply pw_below_drewN | apply below_drew1 | refine below_set ?_ GE138.out | refine below_set ?_ GE180.out | refine below_set ?_ GE190.out) | exact HB.out)))); have n16_ := Aside0.mk (blk_below (g := gb138) (o := .cells #[.slice Ao51 t152.length co51, .slice Ao53 t155.length co53, .int .i64 t158, .bool t159] 25 (0, 0)) (by (with_reducible repeat (first | refine blk_drewN ?_ _ | refine blk_drew ?_ | refine blk_alloc ?_ _)); exact BK138.out) hb); have n17_ := Aside0.mk (blk_below (g := gb180) (o := .cells #[.slice Ao66 t170.length co66, .slice Ao68 t173.length co68, .int .i64 t176, .bool t177] 25 (0, 0)) (by (with_reducible repeat (first | refine blk_drewN ?_ _ | refine blk_drew ?_ | refine blk_alloc ?_ _)); exact BK180.out) hb); have n18_ := Aside0.mk (blk_below (g := gb190) (o := .cells #[.slice Ao76 t181.length co76, .slice Ao80 t184.length co80, .int .i64 t187, .bool t188] 25 (0, 0)) (by (with_reducible repeat (first | refine blk_drewN ?_ _ | refine blk_drew ?_ | refine blk_alloc ?_ _)); exact BK190.out) hb); have n19_ := Aside0.mk (below_step (by repeat (first | (with_reducible first | exact HB.out | apply below_alloc | apply pw_below_drewN | apply below_drew1 | refine below_set ?_ GE138.out | refine below_set ?_ GE180.out | refine below_set ?_ GE190.out) | exact HB.out)) hb); clear HO126; clear HO131; clear HO134; clear HO141; clear HO144; clear HO151; clear HO154; clear HO157; clear HO164; clear HO169; clear HO172; clear HO175; clear HO183; clear HO186; clear HO193; clear BK138; clear BK180; clear BK190; clear HB; have HO126 := n0_; have HO131 := n1_; have HO134 := n2_; have HO141 := n3_; have HO144 := n4_; have HO151 := n5_; have HO154 := n6_; have HO157 := n7_; have HO164 := n8_; have HO169 := n9_; have HO172 := n10_; have HO175 := n11_; have HO183 := n12_; have HO186 := n13_; have HO193 := n14_; have HO198 := n15_; have BK138 := n16_; have BK180 := n17_; have BK190 := n18_; have HB := n19_; clear n0_ n1_ n2_ n3_ n4_ n5_ n6_ n7_ n8_ n9_ n10_ n11_ n12_ n13_ n14_ n15_ n16_ n17_ n18_ n19_; (try clear hb); (try clear hb2); (try clear hk); (try clear hi); (try clear ho0); obtain ⟨Ao84, co84, eo84⟩ := Kd.V_slice HO164.out; subst eo84; have p201 : 0 ≤ (0 : Int) := (by omega); have q201 : 0 < (t162.length : Int) := of_decide_eq_true (by first | (with_reducible assumption) | assumption); obtain ⟨ad201, e201, hx201_0⟩ := Kd.at_string (Kd.V_reads' HO164.out).2.2 0 p201 q201; cases e201; have qi201 : (0 < t162.length) = True := eq_true (by omega); (try rw [show ((0 : Int)).toNat = 0 from rfl] at hx201_0); (try rw [Addr.add_zero'] at hx201_0); replace p201 := eq_true p201; replace q201 := eq_true q201; obtain ⟨Ao85, co85, eo85⟩ := Kd.V_slice HO193.out; subst eo85))
                     go_ret
                     exact ⟨by first | rfl | (simp [errW_none, errW_some] <;> rfl) | (simp [*, errW_none, errW_some] <;> rfl), by repeat (first | (with_reducible first | exact HB.out | apply below_alloc | apply pw_below_drewN | apply below_drew1 | refine below_set ?_ GE138.out | refine below_set ?_ GE180.out | refine below_set ?_ GE190.out) | exact HB.out)⟩
                    ·rw [if_neg c30] at H
                     exact absurd H (by simp)
                   ·rw [if_neg c29] at H
                    exact absurd H (by simp)
                  ·rw [if_neg c28] at H
                   exact absurd H (by simp)
                 ·rw [if_neg c27] at H
                  exact absurd H (by simp)
                ·rw [if_neg c26] at H
                 exact absurd H (by simp)
               ·rw [if_neg c25] at H
                exact absurd H (by simp)
              ·rw [if_neg c24] at H
               exact absurd H (by simp)
             ·rw [if_neg c23] at H
              exact absurd H (by simp)
            ·rw [if_neg c22] at H
             exact absurd H (by simp)
           ·rw [if_neg c21] at H
            exact absurd H (by simp)
          ·rw [if_neg c20] at H
           exact absurd H (by simp)
         ·rw [if_neg c19] at H
          exact absurd H (by simp)
        ·rw [if_neg c18] at H
         exact absurd H (by simp)
       ·rw [if_neg c17] at H
        exact absurd H (by simp)
      ·rw [if_neg c16] at H
       exact absurd H (by simp)
     ·rw [if_neg c15] at H
      exact absurd H (by simp)
    ·rw [if_neg c14] at H
     exact absurd H (by simp)
   ·rw [if_neg c13] at H
    exact absurd H (by simp)
  ·rw [if_neg c8] at H
   exact absurd H (by simp)
 ·rw [if_neg c2] at H
  exact absurd H (by simp)

end Go.Proofs.YthlnjbaichkipaaDoor.XR
