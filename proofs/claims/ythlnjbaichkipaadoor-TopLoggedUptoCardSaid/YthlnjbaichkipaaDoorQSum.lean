-- by a program of this session
import Derived.Test.YthlnjbaichkipaaDoorQWire
set_option linter.unusedVariables false
set_option linter.unusedSimpArgs false
/-! Check sums: the plain theory, over registers of 32 bits. No program in sight. -/
namespace Go.Proofs.YthlnjbaichkipaaDoor.Sum
open Go.Proofs.YthlnjbaichkipaaDoor.Wire
abbrev R := BitVec 32
def P : R := 2197175160#32
/-- One bit goes out. -/
def g (x : R) : R := (x >>> 1) ^^^ (if x.getLsbD 0 then P else 0#32)
def tabN : List Nat := [0, 274646895, 549293790, 820201905, 1098587580, 1361435347, 1640403810, 1905808397, 2197175160, 2460548119, 2722870694, 2987750089, 3280807620, 3553878443, 3811616794, 4084100981]
def tb (i : Nat) : R := BitVec.ofNat 32 (tabN.getD i 0)
/-- Four bits go out, by the table. -/
def h4 (x : R) : R := (x >>> 4) ^^^ tb (x.toNat % 16)
def step (x : R) (c : UInt8) : R := h4 (h4 (x ^^^ BitVec.ofNat 32 c.toNat))
def on (x : R) (l : List UInt8) : R := l.foldl step x
theorem on_append (x : R) (a b : List UInt8) : on x (a ++ b) = on (on x a) b := by simp [on, List.foldl_append]
theorem on_nil (x : R) : on x [] = x := rfl
theorem on_cons (x : R) (c : UInt8) (l : List UInt8) : on x (c :: l) = on (step x c) l := rfl
theorem lsb_mod (x : R) (j : Nat) (hj : j < 4) : x.getLsbD j = (x.toNat % 16).testBit j := by
  rw [show (16 : Nat) = 2 ^ 4 from rfl, Nat.testBit_mod_two_pow]
  simp [hj, BitVec.getLsbD]
theorem shr_lsb (x : R) (k : Nat) : (x >>> k).getLsbD 0 = x.getLsbD k := by simp
theorem g4_eq (x : R) : g (g (g (g x))) = h4 x := by
  have hlt : x.toNat % 16 < 16 := Nat.mod_lt _ (by decide)
  have b0 := lsb_mod x 0 (by decide)
  have b1 := lsb_mod x 1 (by decide)
  have b2 := lsb_mod x 2 (by decide)
  have b3 := lsb_mod x 3 (by decide)
  have gT : ∀ y : R, y.getLsbD 0 = true → g y = (y >>> 1) ^^^ P := fun y h => by unfold g; rw [if_pos h]
  have gF : ∀ y : R, y.getLsbD 0 = false → g y = y >>> 1 := fun y h => by unfold g; rw [if_neg (by rw [h]; decide)]; simp
  have e1 : ∀ c : R, c.getLsbD 0 = false → g (x ^^^ c) = (x >>> 1) ^^^ (c >>> 1) ^^^ (if x.getLsbD 0 then P else 0#32) := by
    intro c hc
    unfold g
    rw [BitVec.getLsbD_xor, hc, Bool.xor_false, BitVec.ushiftRight_xor_distrib]
  have gen : ∀ (k : Nat) (c : R), c.getLsbD 0 = false → g ((x >>> k) ^^^ c) = (x >>> (k + 1)) ^^^ ((c >>> 1) ^^^ (if x.getLsbD k then P else 0#32)) := by
    intro k c hc
    unfold g
    rw [BitVec.getLsbD_xor, hc, Bool.xor_false, BitVec.ushiftRight_xor_distrib, shr_lsb, BitVec.shiftRight_add, BitVec.xor_assoc]
  have s0 : g x = (x >>> 1) ^^^ (if x.getLsbD 0 then P else 0#32) := rfl
  unfold h4
  generalize hi : x.toNat % 16 = i at hlt b0 b1 b2 b3
  rw [s0]
  have p0 : (if x.getLsbD 0 then P else 0#32).getLsbD 0 = false := by split <;> decide
  rw [gen 1 _ p0]
  rw [b0, b1] at *
  clear s0 e1 gT gF p0
  have c2 : (((if i.testBit 0 then P else 0#32) >>> 1) ^^^ (if i.testBit 1 then P else 0#32)).getLsbD 0 = false := by
    cases i.testBit 0 <;> cases i.testBit 1 <;> decide
  rw [gen 2 _ c2, b2]
  have c3 : ((((if i.testBit 0 then P else 0#32) >>> 1) ^^^ (if i.testBit 1 then P else 0#32)) >>> 1 ^^^ (if i.testBit 2 then P else 0#32)).getLsbD 0 = false := by
    cases i.testBit 0 <;> cases i.testBit 1 <;> cases i.testBit 2 <;> decide
  rw [gen 3 _ c3, b3]
  congr 1
  have : ∀ i : Fin 16, ((((if i.val.testBit 0 then P else 0#32) >>> 1 ^^^ (if i.val.testBit 1 then P else 0#32)) >>> 1 ^^^ (if i.val.testBit 2 then P else 0#32)) >>> 1 ^^^ (if i.val.testBit 3 then P else 0#32)) = tb i.val := by decide +kernel
  exact this ⟨i, hlt⟩
/-- A bit goes out, and one comes in: the definition's. -/
def bit (x : R) (c : R) : R := (x >>> 1) ^^^ (if (x ^^^ c).getLsbD 0 then P else 0#32)
def bits (x : R) (c : R) : Nat → R
  | 0 => x
  | k + 1 => bit (bits x c k) (c >>> k)
def gk (x : R) : Nat → R
  | 0 => x
  | k + 1 => g (gk x k)
theorem bits_gk (x c : R) (k : Nat) : bits x c k ^^^ (c >>> k) = gk (x ^^^ c) k := by
  induction k with
  | zero => simp [bits, gk]
  | succ k ih =>
    unfold bits gk
    rw [← ih]
    unfold bit g
    rw [BitVec.ushiftRight_xor_distrib, BitVec.shiftRight_add]
    generalize (if BitVec.getLsbD (bits x c k ^^^ c >>> k) 0 = true then P else 0#32) = q
    rw [BitVec.xor_assoc, BitVec.xor_comm q, ← BitVec.xor_assoc]
theorem bits_step (x : R) (c : UInt8) : bits x (BitVec.ofNat 32 c.toNat) 8 = step x c := by
  have h := bits_gk x (BitVec.ofNat 32 c.toNat) 8
  have hc := c.toNat_lt
  have h0 : (BitVec.ofNat 32 c.toNat) >>> 8 = 0#32 := by
    apply BitVec.eq_of_toNat_eq
    rw [BitVec.toNat_ushiftRight, BitVec.toNat_ofNat, Nat.shiftRight_eq_div_pow, Nat.mod_eq_of_lt (by omega)]
    exact Nat.div_eq_of_lt hc
  rw [h0, BitVec.xor_zero] at h
  rw [h]
  unfold step
  rw [← g4_eq, ← g4_eq]
  rfl
/-- The sum of data. -/
def crc (n : R) (l : List UInt8) : R := ~~~(on (~~~n) l)
theorem crc_append (n : R) (a b : List UInt8) : crc n (a ++ b) = crc (crc n a) b := by
  unfold crc; rw [on_append, BitVec.not_not]
theorem crc_nil (n : R) : crc n [] = n := by unfold crc; rw [on_nil, BitVec.not_not]
def fourL (n : R) : List UInt8 := [UInt8.ofNat n.toNat, UInt8.ofNat (n.toNat / 256), UInt8.ofNat (n.toNat / 65536), UInt8.ofNat (n.toNat / 16777216)]
/-- Data's frame. -/
def frameL (l : List UInt8) : List UInt8 := numL l.length ++ fourL (crc 0 l) ++ l
/-- What bytes begin with: the frame's data, what is behind, why not. -/
def nextL (l : List UInt8) : List UInt8 × List UInt8 × Int :=
  if (getL l).2.2 ≠ 0 then ([], [], (getL l).2.2)
  else if (getL l).1 < 0 then ([], [], 7)
  else if 32768 < (getL l).1 then ([], [], 12)
  else if ((getL l).2.1.length : Int) < 4 + (getL l).1 then ([], [], 5)
  else if (getL l).2.1.take 4 = fourL (crc 0 (((getL l).2.1.drop 4).take (getL l).1.toNat)) then (((getL l).2.1.drop 4).take (getL l).1.toNat, (getL l).2.1.drop (4 + (getL l).1.toNat), 0)
  else ([], [], 6)
theorem nextL_frame (l r : List UInt8) (h : l.length ≤ 32768) : nextL (frameL l ++ r) = (l, r, 0) := by
  have e : frameL l ++ r = numL l.length ++ (fourL (crc 0 l) ++ (l ++ r)) := by simp [frameL, List.append_assoc]
  unfold nextL
  rw [e, getL_num _ ⟨by omega, by omega⟩]
  have h4 : (fourL (crc 0 l)).length = 4 := rfl
  simp only
  rw [if_neg (by simp), if_neg (by omega), if_neg (by omega), if_neg (by rw [List.length_append, List.length_append, h4]; omega), Int.toNat_natCast]
  have d4 : (fourL (crc 0 l) ++ (l ++ r)).drop 4 = l ++ r := by rw [← h4, List.drop_left]
  have t4 : (fourL (crc 0 l) ++ (l ++ r)).take 4 = fourL (crc 0 l) := by rw [← h4, List.take_left]
  have dd : (fourL (crc 0 l) ++ (l ++ r)).drop (4 + l.length) = r := by rw [← List.drop_drop, d4, List.drop_left]
  rw [d4, t4, dd, List.take_left, if_pos rfl]
theorem nextL_inv (l : List UInt8) : (∃ d r, d.length ≤ 32768 ∧ l = frameL d ++ r ∧ nextL l = (d, r, 0)) ∨ ∃ e, e ≠ 0 ∧ nextL l = ([], [], e) := by
  rcases getL_inv l with ⟨n, r, hn, e, he⟩ | ⟨e, h, he⟩
  · unfold nextL
    rw [he]
    simp only
    rw [if_neg (by simp)]
    by_cases c1 : n < 0
    · exact .inr ⟨7, by decide, if_pos c1⟩
    rw [if_neg c1]
    by_cases c2 : 32768 < n
    · exact .inr ⟨12, by decide, if_pos c2⟩
    rw [if_neg c2]
    by_cases c3 : (r.length : Int) < 4 + n
    · exact .inr ⟨5, by decide, if_pos c3⟩
    rw [if_neg c3]
    by_cases c4 : r.take 4 = fourL (crc 0 ((r.drop 4).take n.toNat))
    · rw [if_pos c4]
      refine .inl ⟨_, _, by rw [List.length_take]; omega, ?_, rfl⟩
      have hl : (((r.drop 4).take n.toNat).length : Int) = n := by rw [List.length_take, List.length_drop]; omega
      unfold frameL
      rw [hl, ← c4, e, List.append_assoc, List.append_assoc]
      congr 1
      rw [← List.drop_drop, List.take_append_drop, List.take_append_drop]
    · rw [if_neg c4]
      exact .inr ⟨6, by decide, rfl⟩
  · refine .inr ⟨e, by omega, ?_⟩
    unfold nextL
    rw [he]
    simp only
    rw [if_pos (by omega)]
end Go.Proofs.YthlnjbaichkipaaDoor.Sum
