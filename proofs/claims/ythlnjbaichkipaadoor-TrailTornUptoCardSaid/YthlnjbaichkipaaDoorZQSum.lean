-- by a program of this session
import Derived.Test.YthlnjbaichkipaaDoorZQWire
set_option linter.unusedVariables false
set_option linter.unusedSimpArgs false
namespace Go.Proofs.YthlnjbaichkipaaDoor.Sum
open Go.Proofs.YthlnjbaichkipaaDoor.Wire
abbrev R := BitVec 32
def P : R := 2197175160#32
def g (x : R) : R := (x >>> 1) ^^^ (if x.getLsbD 0 then P else 0#32)
def tabN : List Nat := [0, 274646895, 549293790, 820201905, 1098587580, 1361435347, 1640403810, 1905808397, 2197175160, 2460548119, 2722870694, 2987750089, 3280807620, 3553878443, 3811616794, 4084100981]
def tb (i : Nat) : R := BitVec.ofNat 32 (tabN.getD i 0)
def h4 (x : R) : R := (x >>> 4) ^^^ tb (x.toNat % 16)
def step (x : R) (c : UInt8) : R := h4 (h4 (x ^^^ BitVec.ofNat 32 c.toNat))
def on (x : R) (l : List UInt8) : R := l.foldl step x
theorem on_append (x : R) (a b : List UInt8) : on x (a ++ b) = on (on x a) b := by simp [on, List.foldl_append]
def bit (x : R) (c : R) : R := (x >>> 1) ^^^ (if (x ^^^ c).getLsbD 0 then P else 0#32)
def bits (x : R) (c : R) : Nat → R
  | 0 => x
  | k + 1 => bit (bits x c k) (c >>> k)
def gk (x : R) : Nat → R
  | 0 => x
  | k + 1 => g (gk x k)
def crc (n : R) (l : List UInt8) : R := ~~~(on (~~~n) l)
def fourL (n : R) : List UInt8 := [UInt8.ofNat n.toNat, UInt8.ofNat (n.toNat / 256), UInt8.ofNat (n.toNat / 65536), UInt8.ofNat (n.toNat / 16777216)]
def frameL (l : List UInt8) : List UInt8 := numL l.length ++ fourL (crc 0 l) ++ l
def nextL (l : List UInt8) : List UInt8 × List UInt8 × Int :=
  if (getL l).2.2 ≠ 0 then ([], [], (getL l).2.2)
  else if (getL l).1 < 0 then ([], [], 7)
  else if 32768 < (getL l).1 then ([], [], 12)
  else if ((getL l).2.1.length : Int) < 4 + (getL l).1 then ([], [], 5)
  else if (getL l).2.1.take 4 = fourL (crc 0 (((getL l).2.1.drop 4).take (getL l).1.toNat)) then (((getL l).2.1.drop 4).take (getL l).1.toNat, (getL l).2.1.drop (4 + (getL l).1.toNat), 0)
  else ([], [], 6)
theorem nextL_frame (l r : List UInt8) (h : l.length ≤ 32768) : nextL (frameL l ++ r) = (l, r, 0) := by
  have e : frameL l ++ r = numL l.length ++ (fourL (crc 0 l) ++ (l ++ r)) := by simp [frameL, List.append_assoc]
  unfold nextL
  rw [e, getL_num _ ⟨by omega, by omega⟩]
  have h4 : (fourL (crc 0 l)).length = 4 := rfl
  simp only
  rw [if_neg (by simp), if_neg (by omega), if_neg (by omega), if_neg (by rw [List.length_append, List.length_append, h4]; omega), Int.toNat_natCast]
  have d4 : (fourL (crc 0 l) ++ (l ++ r)).drop 4 = l ++ r := by rw [← h4, List.drop_left]
  have t4 : (fourL (crc 0 l) ++ (l ++ r)).take 4 = fourL (crc 0 l) := by rw [← h4, List.take_left]
  have dd : (fourL (crc 0 l) ++ (l ++ r)).drop (4 + l.length) = r := by rw [← List.drop_drop, d4, List.drop_left]
  rw [d4, t4, dd, List.take_left, if_pos rfl]
end Go.Proofs.YthlnjbaichkipaaDoor.Sum
