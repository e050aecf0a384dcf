-- by px.py, a program of this session, over the kit's printer: functions given by hand stand beside printed ones. Lean checks all of it.
import Derived.Test.YtcblmfcgjemgkaaDoorZXS0
import Derived.Test.YtcblmfcgjemgkaaDoorZGMax
import Derived.Lib.SplitLaws
import Derived.Lib.ReplaceLaws
import Derived.Test.YtcblmfcgjemgkaaDoorZGA
namespace Go.Proofs.YtcblmfcgjemgkaaDoor.XS
open Go.RowKit Go.Proofs.YtcblmfcgjemgkaaDoorW.PrintWords Go.Proofs.YtcblmfcgjemgkaaDoorW.PrintLast Go.Proofs.YtcblmfcgjemgkaaDoorW.PrintMore
attribute [local go_sem] max2_int min2_int max_two min_two max_three min_three max_four min_four   -- for this text's walks alone
set_option linter.unusedVariables false
set_option linter.unusedSimpArgs false

mutual
def value_Name.j0 : Nat → ByteArray → Bool → Option (Int)
 | 0, _, _ => none
 | k + 1, x0, x11 => if x11 = true then (some 13) else (value_Name.l0 k x0 (x0.size : Int) 0)
def value_Name.l0 : Nat → ByteArray → Int → Int → Option (Int)
 | 0, _, _, _ => none
 | k + 1, x0, x13, x14 => if x14 < x13 then (if 0 ≤ x14 then (if x14 < (x0.size : Int) then (if (bt x0 x14) ≥ 97 then (value_Name.j2 k x0 x14 (bt x0 x14) x13 x14 (decide ((bt x0 x14) ≤ 122))) else (value_Name.j2 k x0 x14 (bt x0 x14) x13 x14 false)) else (none)) else (none)) else (some 0)
def value_Name.j2 : Nat → ByteArray → Int → Int → Int → Int → Bool → Option (Int)
 | 0, _, _, _, _, _, _ => none
 | k + 1, x0, x3, x4, x13, x14, x20 => if x20 = true then (value_Name.l0 k x0 x13 (wrap64 (x14 + 1))) else (if x3 > 0 then (if x4 = 95 then (value_Name.l0 k x0 x13 (wrap64 (x14 + 1))) else (if x4 ≥ 48 then (if x4 ≤ 57 then (value_Name.l0 k x0 x13 (wrap64 (x14 + 1))) else (some 13)) else (some 13))) else (some 13))
end
def value_Name.f (k : Nat) (a0 : ByteArray) : Option (Int) := if a0.toList = ([] : List UInt8) then (value_Name.j0 k a0 true) else (value_Name.j0 k a0 (decide ((a0.size : Int) > 32)))
set_option maxHeartbeats 8000000 in
set_option maxRecDepth 100000 in
theorem value_Name.calls (k : Nat) (a0 : ByteArray) (r : Int) (w : World) (h : value_Name.f k a0 = some r) :
  Calls Tryd.prog 40 #[.string a0] w fun e w' => e = .returned (.int .i64 r) ∧ Drawn0 w w' := by
 have H : (if a0.toList = ([] : List UInt8) then (value_Name.j0 k a0 true) else (value_Name.j0 k a0 (decide ((a0.size : Int) > 32)))) = some r := h
 clear h
 have HC2 := Aside0.mk H
 clear H
 go_enter Tryd.func40, Tryd.ntmps40
 go_upto_region 1 with (fail)
 go_cut [11] (fun v11 wc => ∃ (kq : Nat) (x11_1 : Bool), v11 = .bool x11_1 ∧ Aside0 (value_Name.j0 kq a0 x11_1 = some r) ∧ Aside0 (kq ≤ k) ∧ Drawn0 w wc)
 case first =>
  have H := HC2.out
  clear HC2
  by_cases c3 : a0.toList = ([] : List UInt8)
  ·rw [if_pos c3] at H
   have c3b0 : (a0.toList == ([] : List UInt8)) = true := beq_iff_eq.mpr c3
   have c3b1 : (a0.toList != ([] : List UInt8)) = false := bne_eq_false_iff_eq.mpr c3
   clear c3
   (first | rw [c3b0] | (simp only [i64_w, i32_w]; rw [c3b0]) | skip)
   have H' := Aside0.mk H
   clear H
   go_wp2
   go_meet
   case rel => exact ⟨_, (true), (by first | rfl | (simp; done) | (simp [*]; done)), H', ⟨by first | omega | exact Nat.le_refl _⟩, by repeat (first | exact Drawn0.refl _ | apply Drawn0.step)⟩
  ·rw [if_neg c3] at H
   have c3b0 : (a0.toList == ([] : List UInt8)) = false := beq_eq_false_iff_ne.mpr c3
   have c3b1 : (a0.toList != ([] : List UInt8)) = true := bne_iff_ne.mpr c3
   (first | rw [c3b0] | (simp only [i64_w, i32_w]; rw [c3b0]) | skip)
   have H' := Aside0.mk H
   clear H
   go_wp2
   go_meet
   case rel => exact ⟨_, (decide ((a0.size : Int) > 32)), (by first | rfl | (simp; done) | (simp [*]; done)), H', ⟨by first | omega | exact Nat.le_refl _⟩, by repeat (first | exact Drawn0.refl _ | apply Drawn0.step)⟩
 case rest =>
  clear HC2
  try clear p2
  try clear c3
  try clear c3b0
  try clear c3b1
  obtain ⟨kq, x11_1, rfl, HA, HJ1, ⟨mc1, rfl⟩⟩ := hcut
  cases kq with
  | zero => exact absurd HA.out (by simp [value_Name.j0])
  | succ kj1 =>
   have H := HA.out
   clear HA
   simp only [value_Name.j0] at H
   by_cases c4 : x11_1 = true
   ·subst c4
    have H1 : (some 13) = some r := by rw [if_pos rfl] at H; exact H
    clear H
    have H := H1
    clear H1
    obtain rfl := Option.some.inj H
    go_wp2
    go_ret
    exact ⟨by first | rfl | (simp; done) | (simp [*]; done), by repeat (first | exact Drawn0.refl _ | apply Drawn0.step)⟩
   ·replace c4 := Bool.eq_false_iff.mpr c4
    subst c4
    have H1 : (value_Name.l0 kj1 a0 (a0.size : Int) 0) = some r := by rw [if_neg (show ¬ (false = true) by decide)] at H; exact H
    clear H
    have H := H1
    clear H1
    have H' := Aside0.mk H
    clear H
    go_wp2
    go_loopg [14] kj1 (fun kq v14 w' => ∃ (x14_2 : Int), v14 = .int .i64 x14_2 ∧ Aside0 (value_Name.l0 kq a0 (a0.size : Int) x14_2 = some r) ∧ Aside0 (kq ≤ kj1) ∧ Drawn0 w w')
    case atStart => exact ⟨(0), (by first | rfl | (simp; done) | (simp [*]; done)), H', ⟨Nat.le_refl _⟩, by repeat (first | exact Drawn0.refl _ | apply Drawn0.step)⟩
    case round =>
     clear H'
     try clear c1
     try clear p2
     try clear c3
     try clear c3b0
     try clear c3b1
     try clear c4
     try clear p2
     obtain ⟨x14_2, rfl, HA, HK2, ⟨m2, rfl⟩⟩ := hrel
     cases gk with
     | zero => exact absurd HA.out (by simp [value_Name.l0])
     | succ k2 =>
      have H := HA.out
      clear HA
      simp only [value_Name.l0] at H
      by_cases c5 : x14_2 < (a0.size : Int)
      ·rw [if_pos c5] at H
       have c5b0 : decide (x14_2 < (a0.size : Int)) = true := decide_eq_true c5
       clear c5
       by_cases c6 : 0 ≤ x14_2
       ·rw [if_pos c6] at H
        have c6b0 : decide (0 ≤ x14_2) = true := decide_eq_true c6
        clear c6
        by_cases c7 : x14_2 < (a0.size : Int)
        ·rw [if_pos c7] at H
         have c7b0 : decide (x14_2 < (a0.size : Int)) = true := decide_eq_true c7
         clear c7
         have HC9 := Aside0.mk H
         clear H
         have p8 : 0 ≤ (x14_2 : Int) := of_decide_eq_true (by first | (with_reducible assumption) | assumption)
         have q8 : x14_2 < (a0.size : Int) := of_decide_eq_true (by first | (with_reducible assumption) | assumption)
         have hx8 := bt_at a0 x14_2
         replace p8 := eq_true p8
         replace q8 := eq_true q8
         go_upto_region 8 with (fail)
         go_cut [20] (fun v20 wc => ∃ (kq : Nat) (x20_8 : Bool), v20 = .bool x20_8 ∧ Aside0 (value_Name.j2 kq a0 x14_2 (bt a0 x14_2) (a0.size : Int) x14_2 x20_8 = some r) ∧ Aside0 (kq ≤ k2) ∧ Drawn0 w wc)
         case first =>
          have H := HC9.out
          clear HC9
          by_cases c10 : (bt a0 x14_2) ≥ 97
          ·rw [if_pos c10] at H
           have c10b0 : decide (97 ≤ (bt a0 x14_2)) = true := decide_eq_true c10
           clear c10
           (first | rw [c10b0] | (simp only [i64_w, i32_w]; rw [c10b0]) | skip)
           have H' := Aside0.mk H
           clear H
           go_wp2
           go_meet
           case rel => exact ⟨_, (decide ((bt a0 x14_2) ≤ 122)), (by first | rfl | (simp; done) | (simp [*]; done)), H', ⟨by have := HJ1.out; have := HK2.out; first | omega | exact Nat.le_refl _⟩, by repeat (first | exact Drawn0.refl _ | apply Drawn0.step)⟩
          ·rw [if_neg c10] at H
           have c10b0 : decide (97 ≤ (bt a0 x14_2)) = false := decide_eq_false c10
           clear c10
           (first | rw [c10b0] | (simp only [i64_w, i32_w]; rw [c10b0]) | skip)
           have H' := Aside0.mk H
           clear H
           go_wp2
           go_meet
           case rel => exact ⟨_, (false), (by first | rfl | (simp; done) | (simp [*]; done)), H', ⟨by have := HJ1.out; have := HK2.out; first | omega | exact Nat.le_refl _⟩, by repeat (first | exact Drawn0.refl _ | apply Drawn0.step)⟩
         case rest =>
          clear HC9
          try clear c1
          try clear p2
          try clear c3
          try clear c3b0
          try clear c3b1
          try clear c4
          try clear c5
          try clear c5b0
          try clear c6
          try clear c6b0
          try clear c7
          try clear c7b0
          try clear p8
          try clear q8
          try clear hx8
          try clear c10
          try clear c10b0
          try clear p2
          try clear p8
          try clear q8
          obtain ⟨kq, x20_8, rfl, HA, HJ8, ⟨mc8, rfl⟩⟩ := hcut
          cases kq with
          | zero => exact absurd HA.out (by simp [value_Name.j2])
          | succ kj8 =>
           have H := HA.out
           clear HA
           simp only [value_Name.j2] at H
           by_cases c11 : x20_8 = true
           ·subst c11
            have H1 : (value_Name.l0 kj8 a0 (a0.size : Int) (wrap64 (x14_2 + 1))) = some r := by rw [if_pos rfl] at H; exact H
            clear H
            have H := H1
            clear H1
            have H' := Aside0.mk H
            clear H
            go_wp2
            go_roundg kj8
            case measure => have := HJ1.out; have := HK2.out; have := HJ8.out; omega
            case rel => exact ⟨(wrap64 (x14_2 + 1)), (by first | rfl | (simp; done) | (simp [*]; done)), H', ⟨by have := HJ1.out; have := HK2.out; have := HJ8.out; omega⟩, by repeat (first | exact Drawn0.refl _ | apply Drawn0.step)⟩
           ·replace c11 := Bool.eq_false_iff.mpr c11
            subst c11
            have H1 : (if x14_2 > 0 then (if (bt a0 x14_2) = 95 then (value_Name.l0 kj8 a0 (a0.size : Int) (wrap64 (x14_2 + 1))) else (if (bt a0 x14_2) ≥ 48 then (if (bt a0 x14_2) ≤ 57 then (value_Name.l0 kj8 a0 (a0.size : Int) (wrap64 (x14_2 + 1))) else (some 13)) else (some 13))) else (some 13)) = some r := by rw [if_neg (show ¬ (false = true) by decide)] at H; exact H
            clear H
            have H := H1
            clear H1
            by_cases c12 : x14_2 > 0
            ·rw [if_pos c12] at H
             have c12b0 : decide (0 < x14_2) = true := decide_eq_true c12
             clear c12
             by_cases c13 : (bt a0 x14_2) = 95
             ·rw [if_pos c13] at H
              have c13b0 : ((bt a0 x14_2) == 95) = true := beq_iff_eq.mpr c13
              have c13b1 : ((bt a0 x14_2) != 95) = false := bne_eq_false_iff_eq.mpr c13
              clear c13
              have H' := Aside0.mk H
              clear H
              go_wp2
              go_roundg kj8
              case measure => have := HJ1.out; have := HK2.out; have := HJ8.out; omega
              case rel => exact ⟨(wrap64 (x14_2 + 1)), (by first | rfl | (simp; done) | (simp [*]; done)), H', ⟨by have := HJ1.out; have := HK2.out; have := HJ8.out; omega⟩, by repeat (first | exact Drawn0.refl _ | apply Drawn0.step)⟩
             ·rw [if_neg c13] at H
              have c13b0 : ((bt a0 x14_2) == 95) = false := beq_eq_false_iff_ne.mpr c13
              have c13b1 : ((bt a0 x14_2) != 95) = true := bne_iff_ne.mpr c13
              by_cases c14 : (bt a0 x14_2) ≥ 48
              ·rw [if_pos c14] at H
               have c14b0 : decide (48 ≤ (bt a0 x14_2)) = true := decide_eq_true c14
               clear c14
               by_cases c15 : (bt a0 x14_2) ≤ 57
               ·rw [if_pos c15] at H
                have c15b0 : decide ((bt a0 x14_2) ≤ 57) = true := decide_eq_true c15
                clear c15
                have H' := Aside0.mk H
                clear H
                go_wp2
                go_roundg kj8
                case measure => have := HJ1.out; have := HK2.out; have := HJ8.out; omega
                case rel => exact ⟨(wrap64 (x14_2 + 1)), (by first | rfl | (simp; done) | (simp [*]; done)), H', ⟨by have := HJ1.out; have := HK2.out; have := HJ8.out; omega⟩, by repeat (first | exact Drawn0.refl _ | apply Drawn0.step)⟩
               ·rw [if_neg c15] at H
                have c15b0 : decide ((bt a0 x14_2) ≤ 57) = false := decide_eq_false c15
                clear c15
                obtain rfl := Option.some.inj H
                go_wp2
                go_ret
                exact ⟨by first | rfl | (simp; done) | (simp [*]; done), by repeat (first | exact Drawn0.refl _ | apply Drawn0.step)⟩
              ·rw [if_neg c14] at H
               have c14b0 : decide (48 ≤ (bt a0 x14_2)) = false := decide_eq_false c14
               clear c14
               obtain rfl := Option.some.inj H
               go_wp2
               go_ret
               exact ⟨by first | rfl | (simp; done) | (simp [*]; done), by repeat (first | exact Drawn0.refl _ | apply Drawn0.step)⟩
            ·rw [if_neg c12] at H
             have c12b0 : decide (0 < x14_2) = false := decide_eq_false c12
             clear c12
             obtain rfl := Option.some.inj H
             go_wp2
             go_ret
             exact ⟨by first | rfl | (simp; done) | (simp [*]; done), by repeat (first | exact Drawn0.refl _ | apply Drawn0.step)⟩
        ·rw [if_neg c7] at H
         exact absurd H (by simp)
       ·rw [if_neg c6] at H
        exact absurd H (by simp)
      ·rw [if_neg c5] at H
       have c5b0 : decide (x14_2 < (a0.size : Int)) = false := decide_eq_false c5
       clear c5
       obtain rfl := Option.some.inj H
       go_wp2
       go_ret
       exact ⟨by first | rfl | (simp; done) | (simp [*]; done), by repeat (first | exact Drawn0.refl _ | apply Drawn0.step)⟩
def strings_Cut.f (a0 : ByteArray) (a1 : ByteArray) : Option (ByteArray × ByteArray × Bool) := if a0.size < 4294967281 then some (⟨(Lib.cut a0.data.toList a1.data.toList).1.toArray⟩, ⟨(Lib.cut a0.data.toList a1.data.toList).2.1.toArray⟩, (Lib.cut a0.data.toList a1.data.toList).2.2) else none
theorem strings_Cut.calls (a0 : ByteArray) (a1 : ByteArray) (r1 : ByteArray) (r2 : ByteArray) (r3 : Bool) (w : World) (h : strings_Cut.f a0 a1 = some (r1, r2, r3)) (HG : GM w) :
  Calls Tryd.prog 19 #[.string a0, .string a1] w fun e w' => e = .returned (.tuple #[.string r1, .string r2, .bool r3]) ∧ Drawn0 w w' := by
 unfold strings_Cut.f at h
 split at h
 ·rename_i hs
  simp only [Option.some.injEq, Prod.mk.injEq] at h
  obtain ⟨rfl, rfl, rfl⟩ := h
  obtain ⟨m, hm⟩ := HG.out
  refine (Tryd.strings_Cut a0 a1 m w hs hm).mono ?_
  rintro e w' ⟨rfl, hn⟩
  exact ⟨rfl, ⟨hn⟩⟩
 ·cases h
def strings_Split.f (a0 : ByteArray) (a1 : ByteArray) : Option (List ByteArray) := if a0.size < 4294967281 ∧ 1 ≤ a1.size then some (Lib.splitB a1 0 (Lib.countB a0 a1) a0) else none
theorem strings_Split.calls (a0 : ByteArray) (a1 : ByteArray) (r : List ByteArray) (w : World) (h : strings_Split.f a0 a1 = some r) (HG : GM w) :
  Calls Tryd.prog 23 #[.string a0, .string a1] w fun e w' => ∃ v0_ : Value, e = .returned (v0_) ∧ Kd.R Kd.string 9 w' w.heap.size (fun _ => True) v0_ r ∧ Below w.heap.size w w' := by
 unfold strings_Split.f at h
 split at h
 ·rename_i hs
  obtain rfl := Option.some.inj h
  obtain ⟨m, hm⟩ := HG.out
  refine (Tryd.strings_Split a0 a1 m w hs.1 hm hs.2).mono ?_
  rintro e w' ⟨rfl, rfl⟩
  have hl := Lib.splitB_all a1 hs.2 0 (Lib.countB a0 a1) a0 rfl
  have hle : Lib.countB a0 a1 ≤ 4294967281 := by
   have h2 := Lib.countB_mul_le a1 hs.2 a0.size a0 (Nat.le_refl _)
   have h3 := Nat.le_mul_of_pos_right (Lib.countB a0 a1) (show 0 < a1.size from hs.2)
   omega
  generalize Lib.countB a0 a1 = k at hl hle ⊢
  have ho := OwnRow.lit (e := 9) (size := 1) w w.heap.size (sc_reps (R := Kd.string.M (w.alloc (.cells ((Lib.splitB a1 0 k a0).map Value.string).toArray 9)) w.heap.size (fun j => True ∧ some j ≠ (Value.slice (some ⟨w.heap.size, 0, none⟩) (k + 1) (k + 1)).ownBlock)) (fun x => rfl) (Lib.splitB a1 0 k a0)) (Nat.le_refl _) (by rw [hl]; omega)
  rw [hl] at ho
  exact ⟨_, rfl, ⟨fun _ _ => trivial, ho⟩, below_alloc (Below.refl _ _) _⟩
 ·cases h


def scan_words.f (a0 : Int) : Option (ByteArray) := if a0 = 3 then (some (⟨#[105, 102]⟩ : ByteArray)) else (if a0 = 5 then (some (⟨#[101, 97, 99, 104]⟩ : ByteArray)) else (if a0 = 4 then (some (⟨#[101, 108, 115, 101]⟩ : ByteArray)) else (if a0 = 6 then (some (⟨#[101, 110, 100]⟩ : ByteArray)) else (some (⟨#[]⟩ : ByteArray)))))
set_option maxHeartbeats 8000000 in
set_option maxRecDepth 100000 in
theorem scan_words.calls (a0 : Int) (r : ByteArray) (w : World) (h : scan_words.f a0 = some r) :
  Calls Tryd.prog 28 #[.int .u8 a0] w fun e w' => e = .returned (.string r) ∧ Drawn0 w w' := by
 have H : (if a0 = 3 then (some (⟨#[105, 102]⟩ : ByteArray)) else (if a0 = 5 then (some (⟨#[101, 97, 99, 104]⟩ : ByteArray)) else (if a0 = 4 then (some (⟨#[101, 108, 115, 101]⟩ : ByteArray)) else (if a0 = 6 then (some (⟨#[101, 110, 100]⟩ : ByteArray)) else (some (⟨#[]⟩ : ByteArray)))))) = some r := h
 clear h
 by_cases c2 : a0 = 3
 ·rw [if_pos c2] at H
  have c2b0 : (a0 == 3) = true := beq_iff_eq.mpr c2
  have c2b1 : (a0 != 3) = false := bne_eq_false_iff_eq.mpr c2
  clear c2
  obtain rfl := Option.some.inj H
  go_enter Tryd.func28, Tryd.ntmps28
  go_wp2
  go_ret
  exact ⟨by first | rfl | (simp; done) | (simp [*]; done), by repeat (first | exact Drawn0.refl _ | apply Drawn0.step)⟩
 ·rw [if_neg c2] at H
  have c2b0 : (a0 == 3) = false := beq_eq_false_iff_ne.mpr c2
  have c2b1 : (a0 != 3) = true := bne_iff_ne.mpr c2
  by_cases c3 : a0 = 5
  ·rw [if_pos c3] at H
   have c3b0 : (a0 == 5) = true := beq_iff_eq.mpr c3
   have c3b1 : (a0 != 5) = false := bne_eq_false_iff_eq.mpr c3
   clear c3
   obtain rfl := Option.some.inj H
   go_enter Tryd.func28, Tryd.ntmps28
   go_wp2
   go_ret
   exact ⟨by first | rfl | (simp; done) | (simp [*]; done), by repeat (first | exact Drawn0.refl _ | apply Drawn0.step)⟩
  ·rw [if_neg c3] at H
   have c3b0 : (a0 == 5) = false := beq_eq_false_iff_ne.mpr c3
   have c3b1 : (a0 != 5) = true := bne_iff_ne.mpr c3
   by_cases c4 : a0 = 4
   ·rw [if_pos c4] at H
    have c4b0 : (a0 == 4) = true := beq_iff_eq.mpr c4
    have c4b1 : (a0 != 4) = false := bne_eq_false_iff_eq.mpr c4
    clear c4
    obtain rfl := Option.some.inj H
    go_enter Tryd.func28, Tryd.ntmps28
    go_wp2
    go_ret
    exact ⟨by first | rfl | (simp; done) | (simp [*]; done), by repeat (first | exact Drawn0.refl _ | apply Drawn0.step)⟩
   ·rw [if_neg c4] at H
    have c4b0 : (a0 == 4) = false := beq_eq_false_iff_ne.mpr c4
    have c4b1 : (a0 != 4) = true := bne_iff_ne.mpr c4
    by_cases c5 : a0 = 6
    ·rw [if_pos c5] at H
     have c5b0 : (a0 == 6) = true := beq_iff_eq.mpr c5
     have c5b1 : (a0 != 6) = false := bne_eq_false_iff_eq.mpr c5
     clear c5
     obtain rfl := Option.some.inj H
     go_enter Tryd.func28, Tryd.ntmps28
     go_wp2
     go_ret
     exact ⟨by first | rfl | (simp; done) | (simp [*]; done), by repeat (first | exact Drawn0.refl _ | apply Drawn0.step)⟩
    ·rw [if_neg c5] at H
     have c5b0 : (a0 == 6) = false := beq_eq_false_iff_ne.mpr c5
     have c5b1 : (a0 != 6) = true := bne_iff_ne.mpr c5
     obtain rfl := Option.some.inj H
     go_enter Tryd.func28, Tryd.ntmps28
     go_wp2
     go_ret
     exact ⟨by first | rfl | (simp; done) | (simp [*]; done), by repeat (first | exact Drawn0.refl _ | apply Drawn0.step)⟩

def scan_own.l0 : Nat → ByteArray → Int → Option (Int)
 | 0, _, _ => none
 | k + 1, x0, x3 => if x3 < 7 then ((scan_words.f x3).bind fun t101 => (if t101.toList = x0.toList then (some x3) else (scan_own.l0 k x0 ((x3 + 1) % 256)))) else (some 2)
def scan_own.f (k : Nat) (a0 : ByteArray) : Option (Int) := scan_own.l0 k a0 3
theorem scan_own.mono_l : ∀ k, (∀ y0 y1, LeO (scan_own.l0 k y0 y1) (scan_own.l0 (k + 1) y0 y1))
 | 0 => fun _ _ r h => by simp [scan_own.l0] at h
 | k + 1 => by
  have ih0 := scan_own.mono_l k
  ·intro y0 y1
   unfold scan_own.l0
   repeat' first
   | (with_reducible exact ih0 _ _)
   | (with_reducible exact LeO.refl _)
   | (with_reducible exact LeO.none _)
   | (with_reducible refine LeO.ite ?_ ?_)
   | (with_reducible refine LeO.bind ?_ (fun _ => ?_))
   | exact ih0 _ _
   | exact LeO.none _
   | refine LeO.ite ?_ ?_
   | refine LeO.bind ?_ (fun _ => ?_)
theorem scan_own.mono : ∀ a0 k, LeO (scan_own.f k a0) (scan_own.f (k + 1) a0) := by
 intro a0 k
 have ih0 := scan_own.mono_l k
 unfold scan_own.f
 repeat' first
   | (with_reducible exact ih0 _ _)
   | (with_reducible exact LeO.refl _)
   | (with_reducible exact LeO.none _)
   | (with_reducible refine LeO.ite ?_ ?_)
   | (with_reducible refine LeO.bind ?_ (fun _ => ?_))
   | exact ih0 _ _
   | exact LeO.none _
   | refine LeO.ite ?_ ?_
   | refine LeO.bind ?_ (fun _ => ?_)
set_option maxHeartbeats 8000000 in
set_option maxRecDepth 100000 in
theorem scan_own.calls (k : Nat) (a0 : ByteArray) (r : Int) (w : World) (h : scan_own.f k a0 = some r) :
  Calls Tryd.prog 36 #[.string a0] w fun e w' => e = .returned (.int .u8 r) ∧ Drawn0 w w' := by
 have H : (scan_own.l0 k a0 3) = some r := h
 clear h
 have H' := Aside0.mk H
 clear H
 go_enter Tryd.func36, Tryd.ntmps36
 go_wp2
 go_loopg [3] k (fun kq v3 w' => ∃ (x3_1 : Int), v3 = .int .u8 x3_1 ∧ Aside0 (scan_own.l0 kq a0 x3_1 = some r) ∧ Aside0 (kq ≤ k) ∧ Drawn0 w w')
 case atStart => exact ⟨(3), (by first | rfl | (simp; done) | (simp [*]; done)), H', ⟨Nat.le_refl _⟩, by repeat (first | exact Drawn0.refl _ | apply Drawn0.step)⟩
 case round =>
  clear H'
  obtain ⟨x3_1, rfl, HA, HK1, ⟨m1, rfl⟩⟩ := hrel
  cases gk with
  | zero => exact absurd HA.out (by simp [scan_own.l0])
  | succ k1 =>
   have H := HA.out
   clear HA
   simp only [scan_own.l0] at H
   by_cases c2 : x3_1 < 7
   ·rw [if_pos c2] at H
    have c2b0 : decide (x3_1 < 7) = true := decide_eq_true c2
    clear c2
    replace H := Option.bind_eq_some_iff.mp H
    obtain ⟨t101, A30, H⟩ := H
    replace H : (if t101.toList = a0.toList then (some x3_1) else (scan_own.l0 k1 a0 ((x3_1 + 1) % 256))) = some r := H
    have A3 := Aside0.mk A30
    clear A30
    by_cases c4 : t101.toList = a0.toList
    ·rw [if_pos c4] at H
     have c4b0 : (t101.toList == a0.toList) = true := beq_iff_eq.mpr c4
     have c4b1 : (t101.toList != a0.toList) = false := bne_eq_false_iff_eq.mpr c4
     clear c4
     obtain rfl := Option.some.inj H
     go_wp2_with (first | ((with_reducible refine gate_callee (f := 28) rfl ?_); refine goesL_ (some 9) rfl rfl Tryd.func28 (by kernel_rfl) rfl #[.int .u8 x3_1] rfl (by (try simp only [List.map_toArray, List.map_cons, List.map_nil]); first | done | rfl | (simp only [List.length_drop, List.length_take]; rfl)) ?_; (with_reducible refine (scan_words.calls x3_1 t101 _ A3.out).mono ?_); rintro e w' ⟨rfl, ⟨nd, rfl⟩⟩; refine ⟨_, rfl, ?_⟩))
     go_ret
     exact ⟨by first | rfl | (simp; done) | (simp [*]; done), by repeat (first | exact Drawn0.refl _ | apply Drawn0.step)⟩
    ·rw [if_neg c4] at H
     have c4b0 : (t101.toList == a0.toList) = false := beq_eq_false_iff_ne.mpr c4
     have c4b1 : (t101.toList != a0.toList) = true := bne_iff_ne.mpr c4
     have H' := Aside0.mk H
     clear H
     go_wp2_with (first | ((with_reducible refine gate_callee (f := 28) rfl ?_); refine goesL_ (some 9) rfl rfl Tryd.func28 (by kernel_rfl) rfl #[.int .u8 x3_1] rfl (by (try simp only [List.map_toArray, List.map_cons, List.map_nil]); first | done | rfl | (simp only [List.length_drop, List.length_take]; rfl)) ?_; (with_reducible refine (scan_words.calls x3_1 t101 _ A3.out).mono ?_); rintro e w' ⟨rfl, ⟨nd, rfl⟩⟩; refine ⟨_, rfl, ?_⟩))
     go_roundg k1
     case measure => have := HK1.out; omega
     case rel => exact ⟨((x3_1 + 1) % 256), (by first | rfl | (simp; done) | (simp [*]; done)), H', ⟨by have := HK1.out; omega⟩, by repeat (first | exact Drawn0.refl _ | apply Drawn0.step)⟩
   ·rw [if_neg c2] at H
    have c2b0 : decide (x3_1 < 7) = false := decide_eq_false c2
    clear c2
    obtain rfl := Option.some.inj H
    go_wp2
    go_ret
    exact ⟨by first | rfl | (simp; done) | (simp [*]; done), by repeat (first | exact Drawn0.refl _ | apply Drawn0.step)⟩
def nmc (i : Nat) (c : Int) : Bool := (decide (97 ≤ c) && decide (c ≤ 122)) || (decide (0 < i) && (decide (c = 95) || (decide (48 ≤ c) && decide (c ≤ 57))))
def nmr (s : ByteArray) : Nat → Nat → Bool
 | _, 0 => true
 | i, d + 1 => nmc i (bt s (i : Int)) && nmr s (i + 1) d
def nm (s : ByteArray) : Bool := decide (0 < s.size) && (decide (s.size ≤ 32) && nmr s 0 s.size)
theorem nm_loop (s : ByteArray) (hs : s.size ≤ 32) : ∀ (d i : Nat), i + d = s.size → Ev (fun k => value_Name.l0 k s (s.size : Int) (i : Int)) (if nmr s i d = true then 0 else 13)
 | 0, i, h => by
  refine Ev.step (f := fun _ => some 0) (fun k => ?_) (Ev.now _)
  rw [value_Name.l0, if_neg (by omega)]
 | d + 1, i, h => by
  have hw : wrap64 ((i : Int) + 1) = ((i + 1 : Nat) : Int) := by unfold wrap64; omega
  have ih := nm_loop s hs d (i + 1) (by omega)
  have e : nmr s i (d + 1) = (nmc i (bt s (i : Int)) && nmr s (i + 1) d) := rfl
  have hj : ∀ b : Bool, (b = true → 97 ≤ bt s (i : Int) ∧ bt s (i : Int) ≤ 122) → (b = false → ¬ (97 ≤ bt s (i : Int) ∧ bt s (i : Int) ≤ 122)) → Ev (fun k => value_Name.j2 k s (i : Int) (bt s (i : Int)) (s.size : Int) (i : Int) b) (if nmr s i (d + 1) = true then 0 else 13) := by
   intro b hb1 hb2
   generalize bt s (i : Int) = c at *
   cases b with
   | true =>
    have hc := hb1 rfl
    have en : nmc i c = true := by unfold nmc; simp [hc.1, hc.2]
    rw [e, en, Bool.true_and]
    refine Ev.step (f := fun k => value_Name.l0 k s (s.size : Int) ((i + 1 : Nat) : Int)) (fun k => ?_) ih
    rw [value_Name.j2, if_pos rfl, hw]
   | false =>
    have hc := hb2 rfl
    have en : nmc i c = (decide (0 < i) && (decide (c = 95) || (decide (48 ≤ c) && decide (c ≤ 57)))) := by
     unfold nmc
     have : (decide (97 ≤ c) && decide (c ≤ 122)) = false := by
      rw [← Bool.not_eq_true, Bool.and_eq_true, decide_eq_true_eq, decide_eq_true_eq]; exact hc
     rw [this, Bool.false_or]
    have no : nmc i c = false → (∀ k, value_Name.j2 (k + 1) s (i : Int) c (s.size : Int) (i : Int) false = some 13) → Ev (fun k => value_Name.j2 k s (i : Int) c (s.size : Int) (i : Int) false) (if nmr s i (d + 1) = true then 0 else 13) := by
     intro h1 h2
     rw [e, h1, Bool.false_and]
     exact Ev.step (f := fun _ => some 13) h2 (Ev.now _)
    have yes : nmc i c = true → (∀ k, value_Name.j2 (k + 1) s (i : Int) c (s.size : Int) (i : Int) false = value_Name.l0 k s (s.size : Int) ((i + 1 : Nat) : Int)) → Ev (fun k => value_Name.j2 k s (i : Int) c (s.size : Int) (i : Int) false) (if nmr s i (d + 1) = true then 0 else 13) := by
     intro h1 h2
     rw [e, h1, Bool.true_and]
     exact Ev.step h2 ih
    by_cases c1 : (i : Int) > 0
    ·have q1 : decide (0 < i) = true := decide_eq_true (by omega)
     by_cases c2 : c = 95
     ·exact yes (by rw [en, q1, decide_eq_true c2]; rfl) (fun k => by rw [value_Name.j2, if_neg (by decide), if_pos c1, if_pos c2, hw])
     ·by_cases c3 : c ≥ 48
      ·by_cases c4 : c ≤ 57
       ·exact yes (by rw [en, q1, decide_eq_false c2, decide_eq_true (show 48 ≤ c from c3), decide_eq_true c4]; rfl) (fun k => by rw [value_Name.j2, if_neg (by decide), if_pos c1, if_neg c2, if_pos c3, if_pos c4, hw])
       ·exact no (by rw [en, q1, decide_eq_false c2, decide_eq_true (show 48 ≤ c from c3), decide_eq_false c4]; rfl) (fun k => by rw [value_Name.j2, if_neg (by decide), if_pos c1, if_neg c2, if_pos c3, if_neg c4])
      ·exact no (by rw [en, q1, decide_eq_false c2, decide_eq_false (show ¬ 48 ≤ c from c3)]; rfl) (fun k => by rw [value_Name.j2, if_neg (by decide), if_pos c1, if_neg c2, if_neg c3])
    ·have q1 : decide (0 < i) = false := decide_eq_false (by omega)
     exact no (by rw [en, q1]; rfl) (fun k => by rw [value_Name.j2, if_neg (by decide), if_neg c1])
  by_cases c : bt s (i : Int) ≥ 97
  ·refine Ev.step (f := fun k => value_Name.j2 k s (i : Int) (bt s (i : Int)) (s.size : Int) (i : Int) (decide (bt s (i : Int) ≤ 122))) (fun k => ?_) (hj _ (fun h => ⟨c, of_decide_eq_true h⟩) (fun h h2 => of_decide_eq_false h h2.2))
   rw [value_Name.l0, if_pos (by omega), if_pos (by omega), if_pos (by omega), if_pos c]
  ·refine Ev.step (f := fun k => value_Name.j2 k s (i : Int) (bt s (i : Int)) (s.size : Int) (i : Int) false) (fun k => ?_) (hj _ (fun h => by cases h) (fun _ h2 => c h2.1))
   rw [value_Name.l0, if_pos (by omega), if_pos (by omega), if_pos (by omega), if_neg c]
theorem nm_f (s : ByteArray) : Ev (fun k => value_Name.f k s) (if nm s = true then 0 else 13) := by
 have he : s.toList = ([] : List UInt8) ↔ s.size = 0 := by
  rw [ByteArray.toList_eq]
  constructor
  ·intro h
   have := congrArg List.length h
   simpa using this
  ·intro h
   have : s.data.size = 0 := h
   simpa using Array.eq_empty_of_size_eq_zero this
 have no : nm s = false → Ev (fun k => value_Name.j0 k s true) (if nm s = true then 0 else 13) := by
  intro h
  rw [h]
  exact Ev.step (f := fun _ => some 13) (fun k => by rw [value_Name.j0, if_pos rfl]) (Ev.now _)
 unfold value_Name.f
 by_cases c : s.size = 0
 ·simp only [if_pos (he.2 c)]
  exact no (by unfold nm; rw [decide_eq_false (by omega)]; rfl)
 ·simp only [if_neg (fun h => c (he.1 h))]
  by_cases c2 : (s.size : Int) > 32
  ·rw [decide_eq_true c2]
   exact no (by unfold nm; rw [decide_eq_false (show ¬ s.size ≤ 32 by omega), Bool.false_and, Bool.and_false])
  ·rw [decide_eq_false c2]
   have e : nm s = nmr s 0 s.size := by unfold nm; rw [decide_eq_true (by omega), decide_eq_true (by omega)]; rfl
   rw [e]
   refine Ev.step (f := fun k => value_Name.l0 k s (s.size : Int) ((0 : Nat) : Int)) (fun k => ?_) (nm_loop s (by omega) s.size 0 (by omega))
   rw [value_Name.j0, if_neg (by decide)]
   rfl
def slices_ContainsFunc_string_string.f (l0 : List ByteArray) : Option (Bool) := some (l0.any fun s => !nm s)
set_option maxHeartbeats 400000 in
set_option maxRecDepth 100000 in
theorem sc_right1 (x : ByteArray) (W : World) : Calls Tryd.prog 39 #[.string x] W fun e w' => e = .returned (.bool (!nm x)) ∧ ∃ q, w' = W.drewN q := by
 obtain ⟨k, hk⟩ := (nm_f x).rounds
 have e : (!nm x) = ((if nm x = true then (0 : Int) else 13) != 0) := by cases nm x <;> rfl
 rw [e]
 generalize (if nm x = true then (0 : Int) else 13) = r at hk
 go_enter Tryd.func39, Tryd.ntmps39
 go_wp2_with (go_at_call 40; refine (value_Name.calls k x r _ hk).mono ?_; rintro e w' ⟨rfl, ⟨q, rfl⟩⟩)
 go_ret
 exact ⟨rfl, _, rfl⟩
theorem slices_ContainsFunc_string_string.calls (A0 : Option Addr) (c0 : Nat) (l0 : List ByteArray) (r : Bool) (w : World) (hr0 : Kd.C Kd.string w A0 l0.length l0) (hc0 : l0.length ≤ c0) (h : slices_ContainsFunc_string_string.f l0 = some r) :
  Calls Tryd.prog 38 #[.slice A0 l0.length c0, .func (.func 39) #[] #[]] w fun e w' => e = .returned (.bool r) ∧ Drawn0 w w' := by
 letI : Inhabited ByteArray := ⟨ByteArray.empty⟩
 unfold slices_ContainsFunc_string_string.f at h
 obtain rfl := Option.some.inj h
 have eg : ∀ args w, (callFunc 39 args).run Tryd.prog w = .ok (.enter 39 args) w := enters_of Tryd.func39 (by kernel_rfl) rfl
 rcases Nat.eq_zero_or_pos l0.length with h0 | h0
 ·obtain rfl : l0 = [] := List.eq_nil_of_length_eq_zero h0
  refine (Tryd.slices_ContainsFunc_empty (α := ByteArray) A0 c0 _ w).mono ?_
  rintro e w' ⟨rfl, rfl⟩
  exact ⟨rfl, Drawn0.refl _⟩
 ·obtain ⟨b, off, rfl, hb, hc⟩ := gi_cells (enc := fun x : ByteArray => [Value.string x]) (d := Kd.string) (fun h => h) hr0 h0 Nat.one_pos
  refine (Tryd.slices_ContainsFunc Value.string (fun s => !nm s) 39 #[] eg b off l0.length c0 l0 w (fun W x _ => sc_right1 x W) (Nat.le_refl _) hr0.2.1 (fun j hj => ?_)).mono ?_
  ·have h := hc j hj 0 (Value.string l0[j]!) rfl
   rw [show (Kd.string : Kd ByteArray).sz = 1 from rfl, Nat.mul_one, Nat.add_zero] at h
   exact h
  ·rintro e w' ⟨rfl, hq⟩
   rw [List.take_length]
   exact ⟨rfl, ⟨hq⟩⟩


def scan_right.f (k : Nat) (l0 : List ByteArray) : Option (Bool) := if (l0.length : Int) < 1 then (some false) else (if (l0.length : Int) > 4 then (some false) else (if (l0.length : Int) = 1 then (if 0 < (l0.length : Int) then ((scan_own.f k (rdOf ByteArray.empty l0 0)).bind fun t103 => (if t103 = 2 then ((slices_ContainsFunc_string_string.f l0).bind fun t104 => (some (!t104))) else (some false))) else (none)) else ((slices_ContainsFunc_string_string.f l0).bind fun t105 => (some (!t105)))))
theorem scan_right.mono : ∀ a0 k, LeO (scan_right.f k a0) (scan_right.f (k + 1) a0) := by
 intro a0 k
 unfold scan_right.f
 repeat' first
   | (with_reducible exact scan_own.mono _ _)
   | (with_reducible exact LeO.refl _)
   | (with_reducible exact LeO.none _)
   | (with_reducible refine LeO.ite ?_ ?_)
   | (with_reducible refine LeO.bind ?_ (fun _ => ?_))
   | exact scan_own.mono _ _
   | exact LeO.none _
   | refine LeO.ite ?_ ?_
   | refine LeO.bind ?_ (fun _ => ?_)
set_option maxHeartbeats 8000000 in
set_option maxRecDepth 100000 in
theorem scan_right.calls (k : Nat) (A0 : Option Addr) (c0 : Nat) (l0 : List ByteArray) (r : Bool) (w : World) (hr0 : Kd.C Kd.string w A0 l0.length l0) (hc0 : l0.length ≤ c0) (h : scan_right.f k l0 = some r) :
  Calls Tryd.prog 24 #[.slice A0 l0.length c0] w fun e w' => e = .returned (.bool r) ∧ Drawn0 w w' := by
 have HR0 := Aside0.mk hr0
 have HC0 := Aside0.mk hc0
 clear hr0 hc0
 have H : (if (l0.length : Int) < 1 then (some false) else (if (l0.length : Int) > 4 then (some false) else (if (l0.length : Int) = 1 then (if 0 < (l0.length : Int) then ((scan_own.f k (rdOf ByteArray.empty l0 0)).bind fun t103 => (if t103 = 2 then ((slices_ContainsFunc_string_string.f l0).bind fun t104 => (some (!t104))) else (some false))) else (none)) else ((slices_ContainsFunc_string_string.f l0).bind fun t105 => (some (!t105)))))) = some r := h
 clear h
 by_cases c2 : (l0.length : Int) < 1
 ·rw [if_pos c2] at H
  have c2b0 : decide ((l0.length : Int) < 1) = true := decide_eq_true c2
  have c2b1 : decide (l0.length < 1) = true := decide_eq_true (by omega)
  clear c2
  obtain rfl := Option.some.inj H
  go_enter Tryd.func24, Tryd.ntmps24
  go_wp2
  go_ret
  exact ⟨by first | rfl | (simp; done) | (simp [*]; done), by repeat (first | exact Drawn0.refl _ | apply Drawn0.step)⟩
 ·rw [if_neg c2] at H
  have c2b0 : decide ((l0.length : Int) < 1) = false := decide_eq_false c2
  have c2b1 : decide (l0.length < 1) = false := decide_eq_false (by omega)
  clear c2
  by_cases c3 : (l0.length : Int) > 4
  ·rw [if_pos c3] at H
   have c3b0 : decide (4 < (l0.length : Int)) = true := decide_eq_true c3
   have c3b1 : decide (4 < l0.length) = true := decide_eq_true (by omega)
   clear c3
   obtain rfl := Option.some.inj H
   go_enter Tryd.func24, Tryd.ntmps24
   go_wp2
   go_ret
   exact ⟨by first | rfl | (simp; done) | (simp [*]; done), by repeat (first | exact Drawn0.refl _ | apply Drawn0.step)⟩
  ·rw [if_neg c3] at H
   have c3b0 : decide (4 < (l0.length : Int)) = false := decide_eq_false c3
   have c3b1 : decide (4 < l0.length) = false := decide_eq_false (by omega)
   clear c3
   by_cases c4 : (l0.length : Int) = 1
   ·rw [if_pos c4] at H
    have c4b0 : ((l0.length : Int) == 1) = true := beq_iff_eq.mpr c4
    have c4b1 : ((l0.length : Int) != 1) = false := bne_eq_false_iff_eq.mpr c4
    clear c4
    by_cases c5 : 0 < (l0.length : Int)
    ·rw [if_pos c5] at H
     have c5b0 : decide (0 < (l0.length : Int)) = true := decide_eq_true c5
     have c5b1 : decide (0 < l0.length) = true := decide_eq_true (by omega)
     clear c5
     replace H := Option.bind_eq_some_iff.mp H
     obtain ⟨t103, A60, H⟩ := H
     replace H : (if t103 = 2 then ((slices_ContainsFunc_string_string.f l0).bind fun t104 => (some (!t104))) else (some false)) = some r := H
     have A6 := Aside0.mk A60
     clear A60
     by_cases c7 : t103 = 2
     ·rw [if_pos c7] at H
      have c7b0 : (t103 == 2) = true := beq_iff_eq.mpr c7
      have c7b1 : (t103 != 2) = false := bne_eq_false_iff_eq.mpr c7
      clear c7
      replace H := Option.bind_eq_some_iff.mp H
      obtain ⟨t104, A80, H⟩ := H
      replace H : (some (!t104)) = some r := H
      have A8 := Aside0.mk A80
      clear A80
      obtain rfl := Option.some.inj H
      have p102 : 0 ≤ (0 : Int) := (by omega)
      have q102 : 0 < (l0.length : Int) := of_decide_eq_true (by first | (with_reducible assumption) | assumption)
      obtain ⟨ad102, e102, hx102_0⟩ := Kd.at_string HR0.out 0 p102 q102
      cases e102
      have qi102 : (0 < l0.length) = True := eq_true (by omega)
      (try rw [show ((0 : Int)).toNat = 0 from rfl] at hx102_0)
      (try rw [Addr.add_zero'] at hx102_0)
      replace p102 := eq_true p102
      replace q102 := eq_true q102
      go_enter Tryd.func24, Tryd.ntmps24
      go_wp2_with (first | (go_at_call 36; (with_reducible refine (scan_own.calls k (rdOf ByteArray.empty l0 0) t103 _ A6.out).mono ?_); rintro e w' ⟨rfl, ⟨nd, rfl⟩⟩) | ((with_reducible refine gate_callee (f := 38) rfl ?_); refine goesL_ (some 24) rfl rfl Tryd.func38 (by kernel_rfl) rfl #[.slice (some ad102) l0.length c0, .func (.func 39) #[] #[]] rfl (by (try simp only [List.map_toArray, List.map_cons, List.map_nil]); first | done | rfl | (simp only [List.length_drop, List.length_take]; rfl)) ?_; (with_reducible refine (slices_ContainsFunc_string_string.calls _ _ l0 t104 _ ?side1 ?side2 A8.out).mono ?_); (case side1 => repeat (first | exact HR0.out | (with_reducible refine Kd.C_alloc ?_ _) | (with_reducible refine Kd.C_drewN ?_ _) | (with_reducible refine Kd.C_drew ?_))); (case side2 => exact HC0.out); rintro e w' ⟨rfl, ⟨nd, rfl⟩⟩; refine ⟨_, rfl, ?_⟩))
      go_ret
      exact ⟨by first | rfl | (simp; done) | (simp [*]; done), by repeat (first | exact Drawn0.refl _ | apply Drawn0.step)⟩
     ·rw [if_neg c7] at H
      have c7b0 : (t103 == 2) = false := beq_eq_false_iff_ne.mpr c7
      have c7b1 : (t103 != 2) = true := bne_iff_ne.mpr c7
      obtain rfl := Option.some.inj H
      have p102 : 0 ≤ (0 : Int) := (by omega)
      have q102 : 0 < (l0.length : Int) := of_decide_eq_true (by first | (with_reducible assumption) | assumption)
      obtain ⟨ad102, e102, hx102_0⟩ := Kd.at_string HR0.out 0 p102 q102
      cases e102
      have qi102 : (0 < l0.length) = True := eq_true (by omega)
      (try rw [show ((0 : Int)).toNat = 0 from rfl] at hx102_0)
      (try rw [Addr.add_zero'] at hx102_0)
      replace p102 := eq_true p102
      replace q102 := eq_true q102
      go_enter Tryd.func24, Tryd.ntmps24
      go_wp2_with (first | (go_at_call 36; (with_reducible refine (scan_own.calls k (rdOf ByteArray.empty l0 0) t103 _ A6.out).mono ?_); rintro e w' ⟨rfl, ⟨nd, rfl⟩⟩))
      go_ret
      exact ⟨by first | rfl | (simp; done) | (simp [*]; done), by repeat (first | exact Drawn0.refl _ | apply Drawn0.step)⟩
    ·rw [if_neg c5] at H
     exact absurd H (by simp)
   ·rw [if_neg c4] at H
    have c4b0 : ((l0.length : Int) == 1) = false := beq_eq_false_iff_ne.mpr c4
    have c4b1 : ((l0.length : Int) != 1) = true := bne_iff_ne.mpr c4
    replace H := Option.bind_eq_some_iff.mp H
    obtain ⟨t105, A90, H⟩ := H
    replace H : (some (!t105)) = some r := H
    have A9 := Aside0.mk A90
    clear A90
    obtain rfl := Option.some.inj H
    go_enter Tryd.func24, Tryd.ntmps24
    go_wp2_with (first | ((with_reducible refine gate_callee (f := 38) rfl ?_); refine goesL_ (some 24) rfl rfl Tryd.func38 (by kernel_rfl) rfl #[.slice A0 l0.length c0, .func (.func 39) #[] #[]] rfl (by (try simp only [List.map_toArray, List.map_cons, List.map_nil]); first | done | rfl | (simp only [List.length_drop, List.length_take]; rfl)) ?_; (with_reducible refine (slices_ContainsFunc_string_string.calls _ _ l0 t105 _ ?side1 ?side2 A9.out).mono ?_); (case side1 => repeat (first | exact HR0.out | (with_reducible refine Kd.C_alloc ?_ _) | (with_reducible refine Kd.C_drewN ?_ _) | (with_reducible refine Kd.C_drew ?_))); (case side2 => exact HC0.out); rintro e w' ⟨rfl, ⟨nd, rfl⟩⟩; refine ⟨_, rfl, ?_⟩))
    go_ret
    exact ⟨by first | rfl | (simp; done) | (simp [*]; done), by repeat (first | exact Drawn0.refl _ | apply Drawn0.step)⟩

def scan_Path.f (k : Nat) (a0 : ByteArray) : Option (List ByteArray × Int) := (strings_Split.f a0 (⟨#[46]⟩ : ByteArray)).bind fun t106 => ((scan_right.f k t106).bind fun t109 => (if t109 = true then (some (t106, 0)) else (some (([] : List ByteArray), 13))))
theorem scan_Path.mono : ∀ a0 k, LeO (scan_Path.f k a0) (scan_Path.f (k + 1) a0) := by
 intro a0 k
 unfold scan_Path.f
 repeat' first
   | (with_reducible exact scan_right.mono _ _)
   | (with_reducible exact LeO.refl _)
   | (with_reducible exact LeO.none _)
   | (with_reducible refine LeO.ite ?_ ?_)
   | (with_reducible refine LeO.bind ?_ (fun _ => ?_))
   | exact scan_right.mono _ _
   | exact LeO.none _
   | refine LeO.ite ?_ ?_
   | refine LeO.bind ?_ (fun _ => ?_)
set_option maxHeartbeats 8000000 in
set_option maxRecDepth 100000 in
theorem scan_Path.calls (k : Nat) (a0 : ByteArray) (r1 : List ByteArray) (r2 : Int) (w : World) (h : scan_Path.f k a0 = some (r1, r2)) (HG : GM w) :
  Calls Tryd.prog 10 #[.string a0] w fun e w' => ∃ v0_ : Value, e = .returned (.tuple #[v0_, .int .i64 r2]) ∧ Kd.R Kd.string 9 w' w.heap.size (fun _ => True) v0_ r1 ∧ Below w.heap.size w w' := by
 have HB := Aside0.mk (Below.refl w.heap.size w)
 have H : ((strings_Split.f a0 (⟨#[46]⟩ : ByteArray)).bind fun t106 => ((scan_right.f k t106).bind fun t109 => (if t109 = true then (some (t106, 0)) else (some (([] : List ByteArray), 13))))) = some (r1, r2) := h
 clear h
 replace H := Option.bind_eq_some_iff.mp H
 obtain ⟨t106, A20, H⟩ := H
 replace H : ((scan_right.f k t106).bind fun t109 => (if t109 = true then (some (t106, 0)) else (some (([] : List ByteArray), 13)))) = some (r1, r2) := H
 have A2 := Aside0.mk A20
 clear A20
 replace H := Option.bind_eq_some_iff.mp H
 obtain ⟨t109, A30, H⟩ := H
 replace H : (if t109 = true then (some (t106, 0)) else (some (([] : List ByteArray), 13))) = some (r1, r2) := H
 have A3 := Aside0.mk A30
 clear A30
 by_cases c4 : t109 = true
 ·subst c4
  have H1 : (some (t106, 0)) = some (r1, r2) := by rw [if_pos rfl] at H; exact H
  clear H
  have H := H1
  clear H1
  simp only [Option.some.injEq, Prod.mk.injEq] at H
  obtain ⟨rfl, rfl⟩ := H
  go_enter Tryd.func10, Tryd.ntmps10
  go_wp2_with (first | ((with_reducible refine gate_callee (f := 23) rfl ?_); refine goesL_ (some 6) rfl rfl Tryd.func23 (by kernel_rfl) rfl #[.string a0, .string (⟨#[46]⟩ : ByteArray)] rfl (by (try simp only [List.map_toArray, List.map_cons, List.map_nil]); first | done | rfl | (simp only [List.length_drop, List.length_take]; rfl)) ?_; (with_reducible refine (strings_Split.calls a0 (⟨#[46]⟩ : ByteArray) t106 _ A2.out ?hg_).mono ?_); (case hg_ => first | ((with_reducible repeat (first | apply GM_drewN | apply GM_drew)); with_reducible exact HG) | exact GM_below HG (by repeat (first | (with_reducible first | exact HB.out | apply below_alloc | apply pw_below_drewN | apply below_drew1) | exact HB.out))); rintro e w5 ⟨v107, rfl, ho0, hb⟩; refine ⟨_, rfl, ?_⟩; have n0_ := Aside0.mk (Kd.R_lower ho0 (below_size (by repeat (first | (with_reducible first | exact HB.out | apply below_alloc | apply pw_below_drewN | apply below_drew1) | exact HB.out)))); have n1_ := Aside0.mk (below_step (by repeat (first | (with_reducible first | exact HB.out | apply below_alloc | apply pw_below_drewN | apply below_drew1) | exact HB.out)) hb); clear HB; have HO108 := n0_; have HB := n1_; clear n0_ n1_; (try clear hb); (try clear hb2); (try clear hk); (try clear hi); (try clear ho0); obtain ⟨Ao6, co6, eo6⟩ := Kd.R_slice HO108.out; subst eo6) | ((with_reducible refine gate_callee (f := 24) rfl ?_); refine goesL_ (some 8) rfl rfl Tryd.func24 (by kernel_rfl) rfl #[.slice Ao6 t106.length co6] rfl (by (try simp only [List.map_toArray, List.map_cons, List.map_nil]); first | done | rfl | (simp only [List.length_drop, List.length_take]; rfl)) ?_; (with_reducible refine (scan_right.calls k _ _ t106 true _ ?side1 ?side2 A3.out).mono ?_); (case side1 => repeat (first | exact (Kd.R_reads' HO108.out).2.2 | (with_reducible refine Kd.C_alloc ?_ _) | (with_reducible refine Kd.C_drewN ?_ _) | (with_reducible refine Kd.C_drew ?_))); (case side2 => exact (Kd.R_reads' HO108.out).2.1); rintro e w' ⟨rfl, ⟨nd, rfl⟩⟩; refine ⟨_, rfl, ?_⟩))
  go_ret2
  exact ⟨_, by first | rfl | (simp [errW_none, errW_some] <;> rfl) | (simp [*, errW_none, errW_some] <;> rfl), by (with_reducible repeat (first | apply Kd.R_alloc | apply Kd.R_drewN | apply Kd.R_drew)); exact HO108.out, by repeat (first | (with_reducible first | exact HB.out | apply below_alloc | apply pw_below_drewN | apply below_drew1) | exact HB.out)⟩
 ·replace c4 := Bool.eq_false_iff.mpr c4
  subst c4
  have H1 : (some (([] : List ByteArray), 13)) = some (r1, r2) := by rw [if_neg (show ¬ (false = true) by decide)] at H; exact H
  clear H
  have H := H1
  clear H1
  simp only [Option.some.injEq, Prod.mk.injEq] at H
  obtain ⟨rfl, rfl⟩ := H
  go_enter Tryd.func10, Tryd.ntmps10
  go_wp2_with (first | ((with_reducible refine gate_callee (f := 23) rfl ?_); refine goesL_ (some 6) rfl rfl Tryd.func23 (by kernel_rfl) rfl #[.string a0, .string (⟨#[46]⟩ : ByteArray)] rfl (by (try simp only [List.map_toArray, List.map_cons, List.map_nil]); first | done | rfl | (simp only [List.length_drop, List.length_take]; rfl)) ?_; (with_reducible refine (strings_Split.calls a0 (⟨#[46]⟩ : ByteArray) t106 _ A2.out ?hg_).mono ?_); (case hg_ => first | ((with_reducible repeat (first | apply GM_drewN | apply GM_drew)); with_reducible exact HG) | exact GM_below HG (by repeat (first | (with_reducible first | exact HB.out | apply below_alloc | apply pw_below_drewN | apply below_drew1) | exact HB.out))); rintro e w7 ⟨v107, rfl, ho0, hb⟩; refine ⟨_, rfl, ?_⟩; have n0_ := Aside0.mk (Kd.R_lower ho0 (below_size (by repeat (first | (with_reducible first | exact HB.out | apply below_alloc | apply pw_below_drewN | apply below_drew1) | exact HB.out)))); have n1_ := Aside0.mk (below_step (by repeat (first | (with_reducible first | exact HB.out | apply below_alloc | apply pw_below_drewN | apply below_drew1) | exact HB.out)) hb); clear HB; have HO108 := n0_; have HB := n1_; clear n0_ n1_; (try clear hb); (try clear hb2); (try clear hk); (try clear hi); (try clear ho0); obtain ⟨Ao8, co8, eo8⟩ := Kd.R_slice HO108.out; subst eo8) | ((with_reducible refine gate_callee (f := 24) rfl ?_); refine goesL_ (some 8) rfl rfl Tryd.func24 (by kernel_rfl) rfl #[.slice Ao8 t106.length co8] rfl (by (try simp only [List.map_toArray, List.map_cons, List.map_nil]); first | done | rfl | (simp only [List.length_drop, List.length_take]; rfl)) ?_; (with_reducible refine (scan_right.calls k _ _ t106 false _ ?side1 ?side2 A3.out).mono ?_); (case side1 => repeat (first | exact (Kd.R_reads' HO108.out).2.2 | (with_reducible refine Kd.C_alloc ?_ _) | (with_reducible refine Kd.C_drewN ?_ _) | (with_reducible refine Kd.C_drew ?_))); (case side2 => exact (Kd.R_reads' HO108.out).2.1); rintro e w' ⟨rfl, ⟨nd, rfl⟩⟩; refine ⟨_, rfl, ?_⟩))
  go_ret2
  exact ⟨_, by first | rfl | (simp [errW_none, errW_some] <;> rfl) | (simp [*, errW_none, errW_some] <;> rfl), by first | exact Kd.R_nil _ _ _ _ _ | exact Kd.N_nil _ _ _ _ _ | exact Kd.V_nil _ _ _ _ _ | exact Kd.Q_nil _ _ _ _ _ | exact Kd.S_nil _ _ _ _ _, by repeat (first | (with_reducible first | exact HB.out | apply below_alloc | apply pw_below_drewN | apply below_drew1) | exact HB.out)⟩

end Go.Proofs.YtcblmfcgjemgkaaDoor.XS
