-- by px.py, a program of this session, over the kit's printer: functions given by hand stand beside printed ones. Lean checks all of it.
import Derived.Test.YtbimjpafgiogcaaDoorZXQ0
import Derived.Test.YtbimjpafgiogcaaDoorZGLen64
namespace Go.Proofs.YtbimjpafgiogcaaDoor.XQ
open Go.RowKit Go.Proofs.YtbimjpafgiogcaaDoorW.PrintWords Go.Proofs.YtbimjpafgiogcaaDoorW.PrintLast Go.Proofs.YtbimjpafgiogcaaDoorW.PrintMore
attribute [local go_sem] max2_int min2_int max_two min_two max_three min_three max_four min_four   -- for this text's walks alone
set_option linter.unusedVariables false
set_option linter.unusedSimpArgs false

def wire_signed.f (a0 : Int) (a1 : Bool) : Option (Int × Bool) := if a1 = true then (if a0 > 0 then (some (wrap64 (IntKind.u64.wrap (-a0)), decide (a0 ≤ 9223372036854775808))) else (some (wrap64 (IntKind.u64.wrap (-a0)), false))) else (some (wrap64 (a0), decide (a0 < 9223372036854775808)))
set_option maxHeartbeats 8000000 in
set_option maxRecDepth 100000 in
theorem wire_signed.calls (a0 : Int) (a1 : Bool) (r1 : Int) (r2 : Bool) (w : World) (h : wire_signed.f a0 a1 = some (r1, r2)) :
  Calls Tryd.prog 17 #[.int .u64 a0, .bool a1] w fun e w' => e = .returned (.tuple #[.int .i64 r1, .bool r2]) ∧ Drawn0 w w' := by
 have H : (if a1 = true then (if a0 > 0 then (some (wrap64 (IntKind.u64.wrap (-a0)), decide (a0 ≤ 9223372036854775808))) else (some (wrap64 (IntKind.u64.wrap (-a0)), false))) else (some (wrap64 (a0), decide (a0 < 9223372036854775808)))) = some (r1, r2) := h
 clear h
 by_cases c3 : a1 = true
 ·subst c3
  have H1 : (if a0 > 0 then (some (wrap64 (IntKind.u64.wrap (-a0)), decide (a0 ≤ 9223372036854775808))) else (some (wrap64 (IntKind.u64.wrap (-a0)), false))) = some (r1, r2) := by rw [if_pos rfl] at H; exact H
  clear H
  have H := H1
  clear H1
  by_cases c4 : a0 > 0
  ·rw [if_pos c4] at H
   have c4b0 : decide (0 < a0) = true := decide_eq_true c4
   clear c4
   simp only [Option.some.injEq, Prod.mk.injEq] at H
   obtain ⟨rfl, rfl⟩ := H
   go_enter Tryd.func17, Tryd.ntmps17
   go_wp2
   go_ret2
   exact ⟨by first | rfl | (simp; done) | (simp [*]; done), by repeat (first | exact Drawn0.refl _ | apply Drawn0.step)⟩
  ·rw [if_neg c4] at H
   have c4b0 : decide (0 < a0) = false := decide_eq_false c4
   clear c4
   simp only [Option.some.injEq, Prod.mk.injEq] at H
   obtain ⟨rfl, rfl⟩ := H
   go_enter Tryd.func17, Tryd.ntmps17
   go_wp2
   go_ret2
   exact ⟨by first | rfl | (simp; done) | (simp [*]; done), by repeat (first | exact Drawn0.refl _ | apply Drawn0.step)⟩
 ·replace c3 := Bool.eq_false_iff.mpr c3
  subst c3
  have H1 : (some (wrap64 (a0), decide (a0 < 9223372036854775808))) = some (r1, r2) := by rw [if_neg (show ¬ (false = true) by decide)] at H; exact H
  clear H
  have H := H1
  clear H1
  simp only [Option.some.injEq, Prod.mk.injEq] at H
  obtain ⟨rfl, rfl⟩ := H
  go_enter Tryd.func17, Tryd.ntmps17
  go_wp2
  go_ret2
  exact ⟨by first | rfl | (simp; done) | (simp [*]; done), by repeat (first | exact Drawn0.refl _ | apply Drawn0.step)⟩

def wire_GetNum.m (s : ByteArray) : Nat → Int
 | 0 => 0
 | k + 1 => Go.bits .or .u64 (IntKind.u64.wrap (wire_GetNum.m s k * 256)) (bt s (k + 1))
def wire_GetNum.f (a0 : ByteArray) : Option (Int × ByteArray × Int) :=
 if a0.size = 0 then some (0, (⟨#[]⟩ : ByteArray), 5)
 else if 8 < Go.bits .andNot .u8 (bt a0 0) 128 then some (0, (⟨#[]⟩ : ByteArray), 7)
 else if (a0.size : Int) ≤ Go.bits .andNot .u8 (bt a0 0) 128 then some (0, (⟨#[]⟩ : ByteArray), 5)
 else if 0 < Go.bits .andNot .u8 (bt a0 0) 128 ∧ bt a0 1 = 0 then some (0, (⟨#[]⟩ : ByteArray), 7)
 else (wire_signed.f (wire_GetNum.m a0 (Go.bits .andNot .u8 (bt a0 0) 128).toNat) (decide (128 ≤ bt a0 0))).bind fun t =>
  if t.2 = true then some (t.1, a0.extract ((Go.bits .andNot .u8 (bt a0 0) 128).toNat + 1) a0.size, 0) else some (0, (⟨#[]⟩ : ByteArray), 7)
theorem wire_GetNum.empty (a0 : ByteArray) (h : a0.size = 0) : (a0.toList == ([] : List UInt8)) = true := by
 obtain rfl : a0 = (⟨#[]⟩ : ByteArray) := by
  cases a0 with
  | mk d => simp [ByteArray.size] at h; subst h; rfl
 simp
theorem wire_GetNum.full (a0 : ByteArray) (h : 0 < a0.size) : (a0.toList == ([] : List UInt8)) = false := by
 rw [beq_eq_false_iff_ne]; intro h1
 have h2 := decide_eq_emptyBytes (s := a0)
 rw [h1] at h2
 have h3 : a0 = ByteArray.empty := by simpa using h2
 rw [h3] at h
 exact absurd h (by decide)
theorem wire_GetNum.rng (a0 : ByteArray) : 0 ≤ Go.bits .andNot .u8 (bt a0 0) 128 := Go.bits_lo_u8 _ _ _
theorem wire_GetNum.at_ (a0 : ByteArray) (m k : Nat) (h0 : m < a0.size) (hk : k < m) : rd (bytesOf (a0.extract 1 (m + 1))) (k : Int) = bt a0 ((k : Int) + 1) := by
 have hsz : (a0.extract 1 (m + 1)).size = m := by rw [ByteArray.size_extract]; omega
 have e1 : ((k : Int) + 1).toNat = k + 1 := by omega
 have e2 : ((k : Int)).toNat = k := by omega
 rw [rd_bytesOf]; unfold bt; rw [dif_pos (by rw [hsz]; omega), dif_pos (by omega)]
 simp only [e1, e2]
 rw [ByteArray.getElem_extract]
 simp only [Nat.add_comm]
set_option maxHeartbeats 400000 in
set_option maxRecDepth 100000 in
theorem wire_GetNum.walk (a0 : ByteArray) (w : World) (n : Int) (b : Bool) (m : Nat) (hsg : wire_signed.f (wire_GetNum.m a0 m) (decide (128 ≤ bt a0 0)) = some (n, b)) (hb : Go.bits .andNot .u8 (bt a0 0) 128 = (m : Int)) (h0 : m < a0.size) (h8 : m ≤ 8) (hz : ¬ (0 < m ∧ bt a0 1 = 0)) :
  Calls Tryd.prog 9 #[.string a0] w fun e w' => e = .returned (if b then (.tuple #[.int .i64 n, .string (a0.extract (m + 1) a0.size), .int .i64 0]) else (.tuple #[.int .i64 0, .string (⟨#[]⟩ : ByteArray), .int .i64 7])) ∧ Below w.heap.size w w' := by
 have p4 : 0 < a0.size := by omega
 have n0 := wire_GetNum.full a0 p4
 have hx4 : ∀ h : 0 < a0.size, ((a0[0]'h).toNat : Int) = bt a0 0 := bt_at a0 0
 have hx5 : ∀ h : 1 < a0.size, ((a0[1]'h).toNat : Int) = bt a0 1 := bt_at a0 1
 have hsz : (a0.extract 1 (m + 1)).size = m := by rw [ByteArray.size_extract]; omega
 have hmn : min (m + 1) a0.size - 1 = m := by omega
 have kb := fun W => print_bytes (P := Tryd.prog) 9 53 5 Tryd.underlying9 Tryd.underlying53 Tryd.underlying5 (a0.extract 1 (m + 1)) W
 rw [hsz] at kb
 have hrd := bytes_reads w 5 (a0.extract 1 (m + 1)) (by omega)
 have hbl := bytes_below (Below.refl w.heap.size w) (Nat.le_refl _) 5 (a0.extract 1 (m + 1))
 rw [hsz] at hrd
 have HR := Lib.hid hrd; clear hrd
 have HL := Lib.hid hbl; clear hbl
 have hb1 : (decide ((a0.size : Int) ≤ (m : Int))) = false := by simp; omega
 have hb3 : ((m : Int) + 1 ≤ (a0.size : Int)) = True := by simp; omega
 have hb4 : (1 ≤ (m : Int) + 1) = True := by simp; omega
 have hb5 : ((m : Int) + 1).toNat = m + 1 := by omega
 have hb6 : wrap64 ((m : Int) + 1) = (m : Int) + 1 := by unfold wrap64; omega
 have HS := Lib.hid hsg; clear hsg
 have hat := wire_GetNum.at_ a0 m
 have HA := Lib.hid hat; clear hat
 have HZ : Hid (m = 0) ∨ 0 < m ∧ (bt a0 1 == 0) = false := by
  by_cases h : m = 0
  ·exact .inl (Lib.hid h)
  ·refine .inr ⟨by omega, ?_⟩
   rw [beq_eq_false_iff_ne]; intro h2; exact hz ⟨by omega, h2⟩
 clear hz
 obtain hm0 | ⟨h1, hb2⟩ := HZ
 all_goals cases b
 all_goals (first | (have hm1 : (0 < m) = False := by (have := hm0.out; simp; omega)) | have q5 : 1 < a0.size := by omega)
 all_goals
  go_enter Tryd.func9, Tryd.ntmps9
  go_wp2
  clear kb hmn
  generalize Lib.bytesWorld w 5 (a0.extract 1 (m + 1)) = W at HR HL ⊢
  go_loop [6, 39] (fun vm vi => ∃ k : Nat, k ≤ m ∧ vi = .int .i64 k ∧ vm = .int .u64 (wire_GetNum.m a0 k)) (fun _ vi => m - (intOf vi).toNat)
  case atStart => exact ⟨0, by omega, rfl, rfl⟩
  case round =>
   obtain ⟨k, hk, rfl, rfl⟩ := hrel
   by_cases hkm : k < m
   ·obtain ⟨ad, hA, hc⟩ := HR.out.at_ (k : Int) (by omega) (by omega)
    obtain rfl := Option.some.inj hA
    rw [HA.out k h0 hkm, add_plain, Int.toNat_natCast] at hc
    have hbt := bt_range a0 ((k : Int) + 1)
    clear HS HR HL HA hA
    go_wp2
    go_round
    case rel => exact ⟨k + 1, by omega, by go_num, by simp [wire_GetNum.m]⟩
    case measure => simp [intOf]; omega
   ·obtain rfl : k = m := by omega
    go_wp2_with (go_at_call 17; refine (wire_signed.calls _ _ _ _ _ HS.out).mono ?_; rintro e w1 ⟨rfl, hd⟩)
    all_goals (try go_quiet (fail))
    all_goals (try go_wp2)
    all_goals go_ret3
    all_goals exact ⟨rfl, by first | exact pw_below_drewN (below_then HL.out HL.out.size hd.below) _ | exact below_then HL.out HL.out.size hd.below⟩
set_option maxHeartbeats 400000 in
set_option maxRecDepth 100000 in
theorem wire_GetNum.calls (a0 : ByteArray) (r1 : Int) (r2 : ByteArray) (r3 : Int) (w : World) (h : wire_GetNum.f a0 = some (r1, r2, r3)) :
  Calls Tryd.prog 9 #[.string a0] w fun e w' => e = .returned (.tuple #[.int .i64 r1, .string r2, .int .i64 r3]) ∧ Below w.heap.size w w' := by
 unfold wire_GetNum.f at h
 by_cases c0 : a0.size = 0
 ·rw [if_pos c0] at h
  simp only [Option.some.injEq, Prod.mk.injEq] at h
  obtain ⟨rfl, rfl, rfl⟩ := h
  have n0 := wire_GetNum.empty a0 c0
  clear c0
  go_enter Tryd.func9, Tryd.ntmps9
  go_wp2
  go_ret3
  exact ⟨rfl, Below.refl _ _⟩
 rw [if_neg c0] at h
 have p4 : 0 < a0.size := by omega
 have n0 := wire_GetNum.full a0 p4
 have hx4 : ∀ h : 0 < a0.size, ((a0[0]'h).toNat : Int) = bt a0 0 := bt_at a0 0
 have hr := wire_GetNum.rng a0
 have hr2 := Go.bits_hi_u8 .andNot (bt a0 0) 128
 clear c0
 obtain ⟨m, hm⟩ : ∃ m : Nat, Go.bits .andNot .u8 (bt a0 0) 128 = (m : Int) := ⟨_, (Int.toNat_of_nonneg hr).symm⟩
 rw [hm] at h hr hr2
 by_cases c1 : 8 < (m : Int)
 ·rw [if_pos c1] at h
  simp only [Option.some.injEq, Prod.mk.injEq] at h
  obtain ⟨rfl, rfl, rfl⟩ := h
  have hd : decide (8 < (m : Int)) = true := decide_eq_true c1
  have hd2 : (8 < m) = True := by simp; omega
  go_enter Tryd.func9, Tryd.ntmps9
  go_wp2
  go_ret3
  exact ⟨rfl, Below.refl _ _⟩
 rw [if_neg c1] at h
 have h8 : m ≤ 8 := by omega
 by_cases c2 : (a0.size : Int) ≤ (m : Int)
 ·rw [if_pos c2] at h
  simp only [Option.some.injEq, Prod.mk.injEq] at h
  obtain ⟨rfl, rfl, rfl⟩ := h
  have hd2 : (a0.size ≤ m) = True := by simp; omega
  clear c1
  go_enter Tryd.func9, Tryd.ntmps9
  go_wp2
  go_ret3
  exact ⟨rfl, Below.refl _ _⟩
 rw [if_neg c2] at h
 have hd2 : (a0.size ≤ m) = False := by simp; omega
 by_cases c3 : 0 < (m : Int) ∧ bt a0 1 = 0
 ·rw [if_pos c3] at h
  simp only [Option.some.injEq, Prod.mk.injEq] at h
  obtain ⟨rfl, rfl, rfl⟩ := h
  have hd3 : (0 < m) = True := by simp; omega
  have hx5 : ∀ h : 1 < a0.size, ((a0[1]'h).toNat : Int) = bt a0 1 := bt_at a0 1
  have q5 : 1 < a0.size := by omega
  have hb2 : (bt a0 1 == 0) = true := by rw [beq_iff_eq]; exact c3.2
  clear c1 c2 c3
  go_enter Tryd.func9, Tryd.ntmps9
  go_wp2
  go_ret3
  exact ⟨rfl, Below.refl _ _⟩
 rw [if_neg c3] at h
 obtain ⟨⟨n, b⟩, hs, h⟩ := Option.bind_eq_some_iff.mp h
 rw [Int.toNat_natCast] at hs h
 refine (wire_GetNum.walk a0 w n b m hs hm (by omega) (by omega) (fun h => c3 ⟨by omega, h.2⟩)).mono ?_
 rintro e w' ⟨rfl, hb⟩
 refine ⟨?_, hb⟩
 cases b
 ·simp only [Bool.false_eq_true, if_false, Option.some.injEq, Prod.mk.injEq] at h ⊢
  obtain ⟨rfl, rfl, rfl⟩ := h
  rfl
 ·simp only [if_true, Option.some.injEq, Prod.mk.injEq] at h ⊢
  obtain ⟨rfl, rfl, rfl⟩ := h
  rfl
def bits_Len64.f (a0 : Int) : Option (Int) := if 0 ≤ a0 ∧ a0 ≤ 18446744073709551615 then some (Lib.bitLen a0.toNat : Nat) else none
theorem bits_Len64.calls (a0 : Int) (r : Int) (w : World) (h : bits_Len64.f a0 = some r) :
  Calls Tryd.prog 29 #[.int .u64 a0] w fun e w' => e = .returned (.int .i64 r) ∧ Drawn0 w w' := by
 unfold bits_Len64.f at h
 split at h
 ·rename_i hc
  obtain rfl := Option.some.inj h
  refine (bits_Len64.len a0 w hc.1 hc.2).mono ?_
  rintro e w' ⟨rfl, rfl⟩
  exact ⟨rfl, Drawn0.refl _⟩
 ·cases h


def wire_Put.many (n : Int) : Nat := (Lib.bitLen n.natAbs + 7) / 8
def wire_Put.byte (m i : Nat) : Int := (m : Int) / 2 ^ (8 * (7 - i)) % 256
def wire_Put.bytes (n : Int) : List Int :=
 Go.bits .or .u8 (if n < 0 then 128 else 0) (wire_Put.many n : Int) :: ((List.range 8).map (wire_Put.byte n.natAbs)).drop (8 - wire_Put.many n)
def wire_Put.f (l0 : List Int) (a1 : Int) : Option (List Int) :=
 if -9223372036854775808 ≤ a1 ∧ a1 ≤ 9223372036854775807 ∧ l0.length + 9 ≤ 140737488355328 then some (l0 ++ wire_Put.bytes a1) else none
theorem wire_Put.bitLen_le (n : Nat) : Lib.bitLen n ≤ 64 := by
 have h : ∀ f x, Lib.bitLenAux f x ≤ f := by
  intro f
  induction f with
  | zero => intro x; exact Nat.le_refl _
  | succ f ih =>
   intro x
   unfold Lib.bitLenAux
   split
   ·omega
   ·have := ih (x / 2); omega
 exact h 64 n
def wire_Put.arr (m k : Nat) : Array Value := ((List.range 8).map fun i => Value.int .u8 (if i < k then wire_Put.byte m i else 0)).toArray
structure wire_Put.Arr (m g k : Nat) (w W : World) : Prop where
 below : Below g w W
 size : W.heap.size = g + 1
 blk : W.heap[g]? = some (.cells (wire_Put.arr m k) 72 (0, 0))
theorem wire_Put.Arr.cell {m g k : Nat} {w W : World} (h : wire_Put.Arr m g k w W) (j : Nat) (hj : j < 8) : W.cell? ⟨g, j, none⟩ = some (.int .u8 (if j < k then wire_Put.byte m j else 0)) := by
 rw [cell_of_row W g j _ _ _ h.blk]
 simp [wire_Put.arr, hj]
theorem wire_Put.Arr.frozen {m g k : Nat} {w W : World} (h : wire_Put.Arr m g k w W) (j : Nat) : W.frozen? ⟨g, j, none⟩ = false := by
 have := h.blk
 simp [World.frozen?, this]
theorem wire_Put.Arr.first (m : Nat) (w : World) (cs : Array Value) (h : cs = #[.int .u8 0, .int .u8 0, .int .u8 0, .int .u8 0, .int .u8 0, .int .u8 0, .int .u8 0, .int .u8 0]) : wire_Put.Arr m w.heap.size 0 w (w.alloc (.cells cs 72)) := by
 refine ⟨(Below.refl _ _).alloc (Nat.le_refl _) _, by simp, ?_⟩
 rw [heap_alloc_new, h]
 rfl
theorem wire_Put.Arr.step {m g k : Nat} {w W : World} (h : wire_Put.Arr m g k w W) (hk : k < 8) : wire_Put.Arr m g (k + 1) w (W.setCell ⟨g, k, none⟩ (.int .u8 (wire_Put.byte m k))) := by
 refine ⟨h.below.setCell (p := ⟨g, k, none⟩) (Nat.le_refl _) _, by simp [World.setCell, h.size], ?_⟩
 rw [blk_set h.blk k _]
 congr 2
 apply Array.ext
 ·simp [wire_Put.arr]
 ·intro i h1 h2
  rw [Array.getElem_setIfInBounds (by simpa using h1)]
  by_cases hi : k = i
  ·subst hi; simp [wire_Put.arr]
  ·rw [if_neg hi]
   have h3 : (i < k + 1) ↔ (i < k) := by omega
   simp [wire_Put.arr, h3]
theorem wire_Put.cutArr (g nm : Nat) (h : nm ≤ 8) : ∃ A : Addr, (0 < nm → A = ⟨g, 8 - nm, none⟩) ∧ ∀ W : World, (Instr.sliceAt 72 (.pointer (some ⟨g, 0, none⟩)) (some (.int .i64 (8 - (nm : Int)))) none none).run Tryd.prog W = .ok (.slice (some A) nm nm) W := by
 refine ⟨if 8 = 8 - nm then ⟨g, 0, none⟩ else (⟨g, 0, none⟩ : Addr).add (8 - nm), fun h0 => ?_, fun W => ?_⟩
 ·rw [if_neg (by omega), add_plain]
 ·have ha : Tryd.prog.arrayLen 72 = 8 := by kernel_rfl
  have he : Tryd.prog.elem 72 = 5 := by kernel_rfl
  obtain ⟨i0, hi, hz⟩ := info_parts info5
  rw [run_sliceAt_array_l W 72 ⟨g, 0, none⟩ (by rw [ha, he]; exact Tryd.underlying72) .i64 (8 - (nm : Int)) (by omega) (by rw [ha]; omega), ha, he]
  have ht : (8 - (nm : Int)).toNat = 8 - nm := by omega
  simp [slicedAt, ht, sizeOf, typeInfo, hi, hz.2.1, Result.andThen, show 8 - (8 - nm) = nm by omega]
theorem wire_Put.Arr.reads {m g nm : Nat} {w W : World} {A : Addr} (h : W.heap[g]? = some (.cells (wire_Put.arr m 8) 72 (0, 0))) (hn : nm ≤ 8) (hA : 0 < nm → A = ⟨g, 8 - nm, none⟩) : (Kd.int .u8).C W (some A) nm (((List.range 8).map (wire_Put.byte m)).drop (8 - nm)) := by
 refine Kd.C_of_reads (d := 0) ⟨by simp; omega, by omega, fun h0 => ⟨A, rfl, fun j hj => ?_⟩⟩
 rw [hA h0]
 have e : (⟨g, 8 - nm, none⟩ : Addr).add j = ⟨g, 8 - nm + j, none⟩ := by unfold Addr.add; split <;> simp_all
 rw [e, cell_of_row W g _ _ _ _ h]
 have hlt : 8 - nm + j < 8 := by omega
 simp [wire_Put.arr, List.getD_eq_getElem?_getD, List.getElem?_drop, List.getElem?_range, hlt]
set_option maxHeartbeats 400000 in
set_option maxRecDepth 100000 in
theorem wire_Put.calls (P0_ : Nat → Prop) (u9000_ : Value) (l0 : List Int) (a1 : Int) (r : List Int) (w0 w : World) (hB : Below w0.heap.size w0 w) (ho0 : Kd.R (Kd.int .u8) 5 w w0.heap.size P0_ u9000_ l0) (h : wire_Put.f l0 a1 = some r) :
  Calls Tryd.prog 18 #[u9000_, .int .i64 a1] w fun e w' => ∃ v0_ : Value, e = .returned (v0_) ∧ Kd.R (Kd.int .u8) 5 w' w0.heap.size (fun k_ => (P0_ k_ ∨ w.heap.size ≤ k_)) v0_ r ∧ Below w0.heap.size w0 w' ∧ Kept w w' (fun k_ => P0_ k_) := by
 unfold wire_Put.f at h
 split at h
 rotate_left
 ·cases h
 rename_i hc
 obtain rfl := Option.some.inj h
 obtain ⟨hlo, hhi, hlen⟩ := hc
 clear h
 have HO := Lib.hid ho0; clear ho0
 obtain ⟨m, hm⟩ : ∃ m : Nat, (m : Int) = a1.natAbs := ⟨_, rfl⟩
 have hmb : m ≤ 9223372036854775808 := by omega
 have HM := Lib.hid hm; clear hm
 have hbl := wire_Put.bitLen_le m
 obtain ⟨bn, hbn⟩ : ∃ bn, Lib.bitLen m = bn := ⟨_, rfl⟩
 rw [hbn] at hbl
 obtain ⟨nm, hnm⟩ : ∃ nm : Nat, ((bn : Int) + 7) / 8 = (nm : Int) := ⟨(bn + 7) / 8, by omega⟩
 have hnm8 : nm ≤ 8 := by omega
 have hw8 : wrap64 (8 - (nm : Int)) = 8 - (nm : Int) := by unfold wrap64; omega
 have hwu : IntKind.u8.wrap (nm : Int) = (nm : Int) := by rw [IntKind.wrap_u8]; omega
 have HP : Hid (wire_Put.bytes a1 = bits .or .u8 (if a1 < 0 then 128 else 0) (nm : Int) :: ((List.range 8).map (wire_Put.byte m)).drop (8 - nm)) := by
  refine Lib.hid ?_
  have e : a1.natAbs = m := by have := HM.out; omega
  have e2 : wire_Put.many a1 = nm := by unfold wire_Put.many; rw [e, hbn]; omega
  unfold wire_Put.bytes
  rw [e2, e]
 have HBN := Lib.hid hbn; clear hbn
 have HS : ∃ h0 : Int, Hid ((if a1 < 0 then 128 else 0) = h0) ∧ (a1 < 0 ∧ h0 = 128 ∧ IntKind.u64.wrap (-(IntKind.u64.wrap a1)) = (m : Int) ∨ 0 ≤ a1 ∧ h0 = 0 ∧ IntKind.u64.wrap a1 = (m : Int)) := by
  have hm := HM.out
  by_cases hn : a1 < 0
  ·exact ⟨128, Lib.hid (by rw [if_pos hn]), .inl ⟨hn, rfl, by rw [IntKind.wrap_u64, IntKind.wrap_u64]; omega⟩⟩
  ·exact ⟨0, Lib.hid (by rw [if_neg hn]), .inr ⟨by omega, rfl, by rw [IntKind.wrap_u64]; omega⟩⟩
 obtain ⟨h0, HH, hcase⟩ := HS
 obtain ⟨hv, hhv⟩ : ∃ hv, bits .or .u8 h0 (nm : Int) = hv := ⟨_, rfl⟩
 have HV := Lib.hid (show wire_Put.bytes a1 = hv :: ((List.range 8).map (wire_Put.byte m)).drop (8 - nm) by rw [HP.out, HH.out, hhv])
 clear HP HH HM
 rcases hcase with ⟨hn, rfl, e1⟩ | ⟨hn, rfl, e1⟩
 all_goals (first | have hd : decide (a1 < 0) = true := decide_eq_true hn | have hd : decide (a1 < 0) = false := decide_eq_false (by omega))
 all_goals
  go_enter Tryd.func18, Tryd.ntmps18
  go_wp2_with (go_at_call 29; refine (bits_Len64.calls (m : Int) (bn : Int) _ (by unfold bits_Len64.f; rw [if_pos (by omega), Int.toNat_natCast, HBN.out])).mono ?_; rintro e w' ⟨rfl, hd⟩)
  obtain ⟨Aa, hAa, hcut⟩ := wire_Put.cutArr w'.heap.size nm hnm8
  have HAa := Lib.hid hAa; clear hAa
  have ha := wire_Put.Arr.first m w' _ rfl
  have HA := Lib.hid ha; clear ha
  go_loopw [20] (fun v20 wr => ∃ k : Nat, k ≤ 8 ∧ v20 = .int .i64 k ∧ Hid (wire_Put.Arr m w'.heap.size k w' wr)) (fun v20 _ => 8 - (intOf v20).toNat)
  case atStart => exact ⟨0, by omega, rfl, HA⟩
  case round =>
   clear HA
   obtain ⟨k, hk, rfl, HA⟩ := hrel
   by_cases hk8 : k < 8
   ·have hcell := HA.out.cell k hk8
    have hfr := HA.out.frozen k
    clear hcut hhv hwu hw8
    go_wp2
    go_roundw
    case rel => exact ⟨k + 1, by omega, by go_num, Lib.hid (HA.out.step hk8)⟩
    case measure => simp [intOf]; omega
   ·obtain rfl : k = 8 := by omega
    go_wp2
    have hs1 := hd.below
    have hs2 := HA.out.below
    have hs3 := HA.out.blk
    have hb := below_drew1 (below_then hs1 hs1.size hs2)
    have HBW := Lib.hid hb; have HBL := Lib.hid (show wr.drew.heap[w'.heap.size]? = _ from hs3)
    clear HA hs1 hs2 hs3 hb
    refine start_ (n := 12) (S := fun w' => True) (ds := []) #[false, false, false, false, false, false, false, false, false, false, false, false] (by kernel_rfl) rfl rfl trivial (fun hHeld => ?_)
    generalize wr.drew = W1 at HBW HBL ⊢
    refine pure_ (i := 0) (N := some 32) (v := ?_) (a' := ?_) #[true, false, false, false, false, false, false, false, false, false, false, false] rfl rfl (by kernel_rfl) (fun _ _ _ h => h) (Or.inl ⟨by rfl, ?_⟩) ?_ ?_
    rotate_left
    ·intro w'
     go_simp
     with_reducible rfl
    rotate_left
    ·simp only [Act.put, List.setIfInBounds_toArray, List.set_cons_zero, List.set_cons_succ, i64_w, i32_w]
     rfl
    refine pure_ (i := 1) (N := some 33) (v := ?_) (a' := ?_) #[true, true, false, false, false, false, false, false, false, false, false, false] rfl rfl (by kernel_rfl) (fun _ _ _ h => h) (Or.inl ⟨by rfl, ?_⟩) ?_ ?_
    rotate_left
    ·intro w'
     go_simp
     with_reducible rfl
    rotate_left
    ·simp only [Act.put, List.setIfInBounds_toArray, List.set_cons_zero, List.set_cons_succ, i64_w, i32_w]
     rfl
    refine pure_ (i := 2) (N := some 34) (v := ?_) (a' := ?_) #[true, true, true, false, false, false, false, false, false, false, false, false] rfl rfl (by kernel_rfl) (fun _ _ _ h => h) (Or.inl ⟨by rfl, ?_⟩) ?_ ?_
    rotate_left
    ·intro w'
     go_simp
     with_reducible rfl
    rotate_left
    ·simp only [Act.put, List.setIfInBounds_toArray, List.set_cons_zero, List.set_cons_succ, i64_w, i32_w]
     rfl
    refine pure_ (i := 3) (N := some 35) (v := ?_) (a' := ?_) #[true, true, true, true, false, false, false, false, false, false, false, false] rfl rfl (by kernel_rfl) (fun _ _ _ h => h) (Or.inl ⟨by rfl, ?_⟩) ?_ ?_
    rotate_left
    ·intro w'
     go_simp
     with_reducible rfl
    rotate_left
    ·simp only [Act.put, List.setIfInBounds_toArray, List.set_cons_zero, List.set_cons_succ, i64_w, i32_w]
     rfl
    refine pure_ (i := 4) (N := some 36) (v := ?_) (a' := ?_) #[true, true, true, true, true, false, false, false, false, false, false, false] rfl rfl (by kernel_rfl) (fun _ _ _ h => h) (Or.inl ⟨by rfl, ?_⟩) ?_ ?_
    rotate_left
    ·intro w'
     go_simp
     with_reducible rfl
    rotate_left
    ·simp only [Act.put, List.setIfInBounds_toArray, List.set_cons_zero, List.set_cons_succ, i64_w, i32_w]
     rfl
    refine pure_ (i := 7) (N := some 39) (v := ?_) (a' := ?_) #[true, true, true, true, true, false, false, true, false, false, false, false] rfl rfl (by kernel_rfl) (fun _ _ _ h => h) (Or.inl ⟨by rfl, ?_⟩) ?_ ?_
    rotate_left
    ·intro w'
     go_simp
     with_reducible rfl
    rotate_left
    ·simp only [Act.put, List.setIfInBounds_toArray, List.set_cons_zero, List.set_cons_succ, i64_w, i32_w]
     rfl
    refine pure_ (i := 8) (N := some 40) (v := ?_) (a' := ?_) #[true, true, true, true, true, false, false, true, true, false, false, false] rfl rfl (by kernel_rfl) (fun _ _ _ h => h) (Or.inl ⟨by rfl, ?_⟩) ?_ ?_
    rotate_left
    ·intro w'
     go_simp
     with_reducible rfl
    rotate_left
    ·simp only [Act.put, List.setIfInBounds_toArray, List.set_cons_zero, List.set_cons_succ, i64_w, i32_w]
     rfl
    refine pure_ (i := 9) (N := some 41) (v := ?_) (a' := ?_) #[true, true, true, true, true, false, false, true, true, true, false, false] rfl rfl (by kernel_rfl) (fun _ _ _ h => h) (Or.inl ⟨by rfl, ?_⟩) ?_ ?_
    rotate_left
    ·intro w'
     go_simp
     with_reducible rfl
    rotate_left
    ·simp only [Act.put, List.setIfInBounds_toArray, List.set_cons_zero, List.set_cons_succ, i64_w, i32_w]
     rfl
    refine one_ (i := 5) (N := some 37) #[true, true, true, true, true, true, false, true, true, true, false, false] rfl rfl (by kernel_rfl) (by decide) (fun K hK => ?_)
    refine event_step (w1 := W1.alloc (.cells #[.int .u8 hv] 5)) (v := .slice (some ⟨W1.heap.size, 0, none⟩) 1 1) rfl (by go_simp) ?_
    refine hK.out _ _ trivial (fun hHeld => ?_)
    clear hK K
    refine norm_ (a' := ?_) ?_ ?_
    rotate_left
    ·show Act.put _ (some 37) _ = _
     simp only [Act.put, List.setIfInBounds_toArray, List.set_cons_zero, List.set_cons_succ, i64_w, i32_w]
     rfl
    have hsz := HBW.out.size
    have HO1 : Kd.R (Kd.int .u8) 5 W1 w0.heap.size (fun k_ => P0_ k_ ∨ w.heap.size ≤ k_) u9000_ l0 := Kd.R_mono (Kd.R_below HO.out HBW.out) (fun _ hk => .inl hk)
    have hne := Kd.R_ne HO1 HBL.out (by decide)
    have hB1 : Below w0.heap.size w0 W1 := below_then hB hB.size HBW.out
    refine one_ (i := 6) (N := some 38) #[true, true, true, true, true, true, true, true, true, true, false, false] rfl rfl (by kernel_rfl) (by decide) (fun K hK => ?_)
    refine Kd.R_append_step (Kd.int .u8) (w0 := w0) w0.heap.size rfl (.tmp 32) (.tmp 37) 53 5 (.int .u8 0) 1 rfl Tryd.underlying53 info5 rfl (by decide) (by decide) u9000_ l0 hv [.int .u8 hv] (fun k_ => P0_ k_ ∨ w.heap.size ≤ k_) (fun _ => False) rfl rfl rfl (fun _ h => h.elim) (fun k_ hk => .inr (Nat.le_trans hsz hk)) HO1 hB1 hB1.size (by omega) ?_
    intro v1 w1 HO2 hb2 hg2 hat2
    refine hK.out _ _ trivial (fun hHeld => ?_)
    clear hK K
    refine norm_ (a' := ?_) ?_ ?_
    rotate_left
    ·show Act.put _ (some 38) _ = _
     simp only [Act.put, List.setIfInBounds_toArray, List.set_cons_zero, List.set_cons_succ, i64_w, i32_w]
     rfl
    have HC := wire_Put.Arr.reads (w := w') (nm := nm) (A := Aa) (blk_grown HBL.out hg2 hne) hnm8 HAa.out
    refine one_ (i := 10) (N := some 42) #[true, true, true, true, true, true, true, true, true, true, true, false] rfl rfl (by kernel_rfl) (by decide) (fun K hK => ?_)
    refine Kd.R_append_rows_step (Kd.int .u8) (w0 := w0) w0.heap.size rfl (.tmp 38) (.tmp 41) 53 5 (.int .u8 0) 1 rfl Tryd.underlying53 info5 rfl (by decide) (by decide) v1 (l0 ++ [hv]) (((List.range 8).map (wire_Put.byte m)).drop (8 - nm)) (some Aa) nm nm (fun k_ => P0_ k_ ∨ w.heap.size ≤ k_) (fun _ => False) rfl rfl HO2 HC (fun _ _ h => h) (fun _ h => h.elim) (fun k_ hk => .inr (Nat.le_trans hsz (Nat.le_trans hg2.size hk))) hb2 hb2.size (by simp; omega) ?_
    intro v2 w2 HO3 hb3 hg3 hat3
    refine hK.out _ _ trivial (fun hHeld => ?_)
    clear hK K
    refine norm_ (a' := ?_) ?_ ?_
    rotate_left
    ·show Act.put _ (some 42) _ = _
     simp only [Act.put, List.setIfInBounds_toArray, List.set_cons_zero, List.set_cons_succ, i64_w, i32_w]
     rfl
    refine pure_ (i := 11) (N := some 4) (v := ?_) (a' := ?_) #[true, true, true, true, true, true, true, true, true, true, true, true] rfl rfl (by kernel_rfl) (fun _ _ _ h => h) (Or.inl ⟨by rfl, ?_⟩) ?_ ?_
    rotate_left
    ·intro w'
     go_simp
     with_reducible rfl
    rotate_left
    ·simp only [Act.put, List.setIfInBounds_toArray, List.set_cons_zero, List.set_cons_succ, i64_w, i32_w]
     rfl
    refine done_ (by kernel_rfl) ?_
    go_wp2
    go_ret
    refine ⟨_, rfl, ?_, hb3, ?_⟩
    ·rw [HV.out, List.append_cons]; exact HO3
    ·exact Kept.of_grown hg3 (Kept.of_grown hg2 (Kept.of_below HBW.out _) (fun k hk => HO1.1 k hk)) (fun k hk => HO2.1 k hk)


def wire_Num.f (a0 : Int) : Option (ByteArray) := (wire_Put.f ([] : List Int) a0).bind fun t101 => (some (strOfNums t101))
set_option maxHeartbeats 8000000 in
set_option maxRecDepth 100000 in
theorem wire_Num.calls (a0 : Int) (r : ByteArray) (w : World) (h : wire_Num.f a0 = some r) :
  Calls Tryd.prog 10 #[.int .i64 a0] w fun e w' => e = .returned (.string r) ∧ Below w.heap.size w w' := by
 have HB := Aside0.mk (Below.refl w.heap.size w)
 have H : ((wire_Put.f ([] : List Int) a0).bind fun t101 => (some (strOfNums t101))) = some r := h
 clear h
 replace H := Option.bind_eq_some_iff.mp H
 obtain ⟨t101, A20, H⟩ := H
 replace H : (some (strOfNums t101)) = some r := H
 have A2 := Aside0.mk A20
 clear A20
 obtain rfl := Option.some.inj H
 go_enter Tryd.func10, Tryd.ntmps10
 go_wp2_with (first | ((with_reducible refine gate_callee (f := 18) rfl ?_); refine goesL_ (some 4) rfl rfl Tryd.func18 (by kernel_rfl) rfl #[.slice none 0 0, .int .i64 a0] rfl (by (try simp only [List.map_toArray, List.map_cons, List.map_nil]); first | done | rfl | (simp only [List.length_drop, List.length_take]; rfl)) ?_; (refine (wire_Put.calls (fun k_ => some k_ = (.slice none 0 0 : Value).ownBlock) (.slice none 0 0) ([] : List Int) a0 t101 w _ ?side1 ?side2 A2.out).mono ?_); (case side1 => repeat (first | (with_reducible first | exact HB.out | apply below_alloc | apply pw_below_drewN | apply below_drew1) | exact HB.out)); (case side2 => exact Kd.R_nil _ _ _ _ _); rintro e w3 ⟨v102, rfl, ho0, hb, hkp⟩; refine ⟨_, rfl, ?_⟩; have n0_ := Aside0.mk (Kd.R_mono (ok' := fun k_ => True) ho0 (fun k_ hk_ => trivial)); have n1_ := Aside0.mk (hb); clear HB; have HO103 := n0_; have HB := n1_; clear n0_ n1_; (try clear hb); (try clear hkp); (try clear ho0); have hcv4 := own_string (P := Tryd.prog) Tryd.underlying53 Tryd.underlying5 Tryd.underlying9 (Kd.own_of_R HO103.out)))
 go_ret
 exact ⟨by first | rfl | (simp [errW_none, errW_some] <;> rfl) | (simp [*, errW_none, errW_some] <;> rfl), by repeat (first | (with_reducible first | exact HB.out | apply below_alloc | apply pw_below_drewN | apply below_drew1) | exact HB.out)⟩

end Go.Proofs.YtbimjpafgiogcaaDoor.XQ
