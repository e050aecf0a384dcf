-- by px.py, a program of this session, over the kit's printer: functions given by hand stand beside printed ones. Lean checks all of it.
import Derived.Test.YtgcilfpoblijnaaX0
namespace Go.Proofs.Ytgcilfpoblijnaa.X
open Go.RowKit Go.Proofs.YtgcilfpoblijnaaW.PrintWords Go.Proofs.YtgcilfpoblijnaaW.PrintLast Go.Proofs.YtgcilfpoblijnaaW.PrintMore
attribute [local go_sem] max2_int min2_int max_two min_two max_three min_three max_four min_four   -- for this text's walks alone
set_option linter.unusedVariables false
set_option linter.unusedSimpArgs false

/-! ### wire_signed: function 61 -/
def wire_signed.f (a0 : Int) (a1 : Bool) : Option (Int × Bool) := if a1 = true then (if a0 > 0 then (some (wrap64 (IntKind.u64.wrap (-a0)), decide (a0 ≤ 9223372036854775808))) else (some (wrap64 (IntKind.u64.wrap (-a0)), false))) else (some (wrap64 (a0), decide (a0 < 9223372036854775808)))
set_option maxHeartbeats 8000000 in
set_option maxRecDepth 100000 in
theorem wire_signed.calls (a0 : Int) (a1 : Bool) (r1 : Int) (r2 : Bool) (w : World) (h : wire_signed.f a0 a1 = some (r1, r2)) :
    Calls Try.prog 61 #[.int .u64 a0, .bool a1] w fun e w' => e = .returned (.tuple #[.int .i64 r1, .bool r2]) ∧ Drawn0 w w' := by
  have H : (if a1 = true then (if a0 > 0 then (some (wrap64 (IntKind.u64.wrap (-a0)), decide (a0 ≤ 9223372036854775808))) else (some (wrap64 (IntKind.u64.wrap (-a0)), false))) else (some (wrap64 (a0), decide (a0 < 9223372036854775808)))) = some (r1, r2) := h
  clear h
  by_cases c3 : a1 = true
  · subst c3
    have H1 : (if a0 > 0 then (some (wrap64 (IntKind.u64.wrap (-a0)), decide (a0 ≤ 9223372036854775808))) else (some (wrap64 (IntKind.u64.wrap (-a0)), false))) = some (r1, r2) := by rw [if_pos rfl] at H; exact H
    clear H
    have H := H1
    clear H1
    by_cases c4 : a0 > 0
    · rw [if_pos c4] at H
      have c4b0 : decide (0 < a0) = true := decide_eq_true c4
      clear c4
      simp only [Option.some.injEq, Prod.mk.injEq] at H
      obtain ⟨rfl, rfl⟩ := H
      go_enter Try.func61, Try.ntmps61
      go_wp2
      go_ret2
      exact ⟨by first | rfl | (simp; done) | (simp [*]; done), by repeat (first | exact Drawn0.refl _ | apply Drawn0.step)⟩
    · rw [if_neg c4] at H
      have c4b0 : decide (0 < a0) = false := decide_eq_false c4
      clear c4
      simp only [Option.some.injEq, Prod.mk.injEq] at H
      obtain ⟨rfl, rfl⟩ := H
      go_enter Try.func61, Try.ntmps61
      go_wp2
      go_ret2
      exact ⟨by first | rfl | (simp; done) | (simp [*]; done), by repeat (first | exact Drawn0.refl _ | apply Drawn0.step)⟩
  · replace c3 := Bool.eq_false_iff.mpr c3
    subst c3
    have H1 : (some (wrap64 (a0), decide (a0 < 9223372036854775808))) = some (r1, r2) := by rw [if_neg (show ¬ (false = true) by decide)] at H; exact H
    clear H
    have H := H1
    clear H1
    simp only [Option.some.injEq, Prod.mk.injEq] at H
    obtain ⟨rfl, rfl⟩ := H
    go_enter Try.func61, Try.ntmps61
    go_wp2
    go_ret2
    exact ⟨by first | rfl | (simp; done) | (simp [*]; done), by repeat (first | exact Drawn0.refl _ | apply Drawn0.step)⟩

/-! ### wire_GetNum: function 16, by hand -/
def wire_GetNum.m (s : ByteArray) : Nat → Int
  | 0 => 0
  | k + 1 => Go.bits .or .u64 (IntKind.u64.wrap (wire_GetNum.m s k * 256)) (bt s (k + 1))
def wire_GetNum.f (a0 : ByteArray) : Option (Int × ByteArray × Int) :=
  if a0.size = 0 then some (0, (⟨#[]⟩ : ByteArray), 5)
  else if 8 < Go.bits .andNot .u8 (bt a0 0) 128 then some (0, (⟨#[]⟩ : ByteArray), 7)
  else if (a0.size : Int) ≤ Go.bits .andNot .u8 (bt a0 0) 128 then some (0, (⟨#[]⟩ : ByteArray), 5)
  else if 0 < Go.bits .andNot .u8 (bt a0 0) 128 ∧ bt a0 1 = 0 then some (0, (⟨#[]⟩ : ByteArray), 7)
  else (wire_signed.f (wire_GetNum.m a0 (Go.bits .andNot .u8 (bt a0 0) 128).toNat) (decide (128 ≤ bt a0 0))).bind fun t =>
    if t.2 = true then some (t.1, a0.extract ((Go.bits .andNot .u8 (bt a0 0) 128).toNat + 1) a0.size, 0) else some (0, (⟨#[]⟩ : ByteArray), 7)
theorem wire_GetNum.empty (a0 : ByteArray) (h : a0.size = 0) : (a0.toList == ([] : List UInt8)) = true := by
  obtain rfl : a0 = (⟨#[]⟩ : ByteArray) := by
    cases a0 with
    | mk d => simp [ByteArray.size] at h; subst h; rfl
  simp
theorem wire_GetNum.full (a0 : ByteArray) (h : 0 < a0.size) : (a0.toList == ([] : List UInt8)) = false := by
  rw [beq_eq_false_iff_ne]; intro h1
  have h2 := decide_eq_emptyBytes (s := a0)
  rw [h1] at h2
  have h3 : a0 = ByteArray.empty := by simpa using h2
  rw [h3] at h
  exact absurd h (by decide)
theorem wire_GetNum.rng (a0 : ByteArray) : 0 ≤ Go.bits .andNot .u8 (bt a0 0) 128 := Go.bits_lo_u8 _ _ _
theorem wire_GetNum.at_ (a0 : ByteArray) (m k : Nat) (h0 : m < a0.size) (hk : k < m) : rd (bytesOf (a0.extract 1 (m + 1))) (k : Int) = bt a0 ((k : Int) + 1) := by
  have hsz : (a0.extract 1 (m + 1)).size = m := by rw [ByteArray.size_extract]; omega
  have e1 : ((k : Int) + 1).toNat = k + 1 := by omega
  have e2 : ((k : Int)).toNat = k := by omega
  rw [rd_bytesOf]; unfold bt; rw [dif_pos (by rw [hsz]; omega), dif_pos (by omega)]
  simp only [e1, e2]
  rw [ByteArray.getElem_extract]
  simp only [Nat.add_comm]
set_option maxHeartbeats 400000 in
set_option maxRecDepth 100000 in
theorem wire_GetNum.walk (a0 : ByteArray) (w : World) (n : Int) (b : Bool) (m : Nat) (hsg : wire_signed.f (wire_GetNum.m a0 m) (decide (128 ≤ bt a0 0)) = some (n, b)) (hb : Go.bits .andNot .u8 (bt a0 0) 128 = (m : Int)) (h0 : m < a0.size) (h8 : m ≤ 8) (hz : ¬ (0 < m ∧ bt a0 1 = 0)) :
    Calls Try.prog 16 #[.string a0] w fun e w' => e = .returned (if b then (.tuple #[.int .i64 n, .string (a0.extract (m + 1) a0.size), .int .i64 0]) else (.tuple #[.int .i64 0, .string (⟨#[]⟩ : ByteArray), .int .i64 7])) ∧ Below w.heap.size w w' := by
  have p4 : 0 < a0.size := by omega
  have n0 := wire_GetNum.full a0 p4
  have hx4 : ∀ h : 0 < a0.size, ((a0[0]'h).toNat : Int) = bt a0 0 := bt_at a0 0
  have hx5 : ∀ h : 1 < a0.size, ((a0[1]'h).toNat : Int) = bt a0 1 := bt_at a0 1
  have hsz : (a0.extract 1 (m + 1)).size = m := by rw [ByteArray.size_extract]; omega
  have hmn : min (m + 1) a0.size - 1 = m := by omega
  have kb := fun W => print_bytes (P := Try.prog) 9 41 5 Try.underlying9 Try.underlying41 Try.underlying5 (a0.extract 1 (m + 1)) W
  rw [hsz] at kb
  have hrd := bytes_reads w 5 (a0.extract 1 (m + 1)) (by omega)
  have hbl := bytes_below (Below.refl w.heap.size w) (Nat.le_refl _) 5 (a0.extract 1 (m + 1))
  rw [hsz] at hrd
  have HR := Lib.hid hrd; clear hrd
  have HL := Lib.hid hbl; clear hbl
  have hb1 : (decide ((a0.size : Int) ≤ (m : Int))) = false := by simp; omega
  have hb3 : ((m : Int) + 1 ≤ (a0.size : Int)) = True := by simp; omega
  have hb4 : (1 ≤ (m : Int) + 1) = True := by simp; omega
  have hb5 : ((m : Int) + 1).toNat = m + 1 := by omega
  have hb6 : wrap64 ((m : Int) + 1) = (m : Int) + 1 := by unfold wrap64; omega
  have HS := Lib.hid hsg; clear hsg
  have hat := wire_GetNum.at_ a0 m
  have HA := Lib.hid hat; clear hat
  have HZ : Hid (m = 0) ∨ 0 < m ∧ (bt a0 1 == 0) = false := by
    by_cases h : m = 0
    · exact .inl (Lib.hid h)
    · refine .inr ⟨by omega, ?_⟩
      rw [beq_eq_false_iff_ne]; intro h2; exact hz ⟨by omega, h2⟩
  clear hz
  obtain hm0 | ⟨h1, hb2⟩ := HZ
  all_goals cases b
  all_goals (first | (have hm1 : (0 < m) = False := by (have := hm0.out; simp; omega)) | have q5 : 1 < a0.size := by omega)
  all_goals
    go_enter Try.func16, Try.ntmps16
    go_wp2
    clear kb hmn
    generalize Lib.bytesWorld w 5 (a0.extract 1 (m + 1)) = W at HR HL ⊢
    go_loop [6, 39] (fun vm vi => ∃ k : Nat, k ≤ m ∧ vi = .int .i64 k ∧ vm = .int .u64 (wire_GetNum.m a0 k)) (fun _ vi => m - (intOf vi).toNat)
    case atStart => exact ⟨0, by omega, rfl, rfl⟩
    case round =>
      obtain ⟨k, hk, rfl, rfl⟩ := hrel
      by_cases hkm : k < m
      · obtain ⟨ad, hA, hc⟩ := HR.out.at_ (k : Int) (by omega) (by omega)
        obtain rfl := Option.some.inj hA
        rw [HA.out k h0 hkm, add_plain, Int.toNat_natCast] at hc
        have hbt := bt_range a0 ((k : Int) + 1)
        clear HS HR HL HA hA
        go_wp2
        go_round
        case rel => exact ⟨k + 1, by omega, by go_num, by simp [wire_GetNum.m]⟩
        case measure => simp [intOf]; omega
      · obtain rfl : k = m := by omega
        go_wp2_with (go_at_call 61; refine (wire_signed.calls _ _ _ _ _ HS.out).mono ?_; rintro e w1 ⟨rfl, hd⟩)
        all_goals (try go_quiet (fail))
        all_goals (try go_wp2)
        all_goals go_ret3
        all_goals exact ⟨rfl, by first | exact pw_below_drewN (below_then HL.out HL.out.size hd.below) _ | exact below_then HL.out HL.out.size hd.below⟩
set_option maxHeartbeats 400000 in
set_option maxRecDepth 100000 in
theorem wire_GetNum.calls (a0 : ByteArray) (r1 : Int) (r2 : ByteArray) (r3 : Int) (w : World) (h : wire_GetNum.f a0 = some (r1, r2, r3)) :
    Calls Try.prog 16 #[.string a0] w fun e w' => e = .returned (.tuple #[.int .i64 r1, .string r2, .int .i64 r3]) ∧ Below w.heap.size w w' := by
  unfold wire_GetNum.f at h
  by_cases c0 : a0.size = 0
  · rw [if_pos c0] at h
    simp only [Option.some.injEq, Prod.mk.injEq] at h
    obtain ⟨rfl, rfl, rfl⟩ := h
    have n0 := wire_GetNum.empty a0 c0
    clear c0
    go_enter Try.func16, Try.ntmps16
    go_wp2
    go_ret3
    exact ⟨rfl, Below.refl _ _⟩
  rw [if_neg c0] at h
  have p4 : 0 < a0.size := by omega
  have n0 := wire_GetNum.full a0 p4
  have hx4 : ∀ h : 0 < a0.size, ((a0[0]'h).toNat : Int) = bt a0 0 := bt_at a0 0
  have hr := wire_GetNum.rng a0
  have hr2 := Go.bits_hi_u8 .andNot (bt a0 0) 128
  clear c0
  obtain ⟨m, hm⟩ : ∃ m : Nat, Go.bits .andNot .u8 (bt a0 0) 128 = (m : Int) := ⟨_, (Int.toNat_of_nonneg hr).symm⟩
  rw [hm] at h hr hr2
  by_cases c1 : 8 < (m : Int)
  · rw [if_pos c1] at h
    simp only [Option.some.injEq, Prod.mk.injEq] at h
    obtain ⟨rfl, rfl, rfl⟩ := h
    have hd : decide (8 < (m : Int)) = true := decide_eq_true c1
    have hd2 : (8 < m) = True := by simp; omega
    go_enter Try.func16, Try.ntmps16
    go_wp2
    go_ret3
    exact ⟨rfl, Below.refl _ _⟩
  rw [if_neg c1] at h
  have h8 : m ≤ 8 := by omega
  by_cases c2 : (a0.size : Int) ≤ (m : Int)
  · rw [if_pos c2] at h
    simp only [Option.some.injEq, Prod.mk.injEq] at h
    obtain ⟨rfl, rfl, rfl⟩ := h
    have hd2 : (a0.size ≤ m) = True := by simp; omega
    clear c1
    go_enter Try.func16, Try.ntmps16
    go_wp2
    go_ret3
    exact ⟨rfl, Below.refl _ _⟩
  rw [if_neg c2] at h
  have hd2 : (a0.size ≤ m) = False := by simp; omega
  by_cases c3 : 0 < (m : Int) ∧ bt a0 1 = 0
  · rw [if_pos c3] at h
    simp only [Option.some.injEq, Prod.mk.injEq] at h
    obtain ⟨rfl, rfl, rfl⟩ := h
    have hd3 : (0 < m) = True := by simp; omega
    have hx5 : ∀ h : 1 < a0.size, ((a0[1]'h).toNat : Int) = bt a0 1 := bt_at a0 1
    have q5 : 1 < a0.size := by omega
    have hb2 : (bt a0 1 == 0) = true := by rw [beq_iff_eq]; exact c3.2
    clear c1 c2 c3
    go_enter Try.func16, Try.ntmps16
    go_wp2
    go_ret3
    exact ⟨rfl, Below.refl _ _⟩
  rw [if_neg c3] at h
  obtain ⟨⟨n, b⟩, hs, h⟩ := Option.bind_eq_some_iff.mp h
  rw [Int.toNat_natCast] at hs h
  refine (wire_GetNum.walk a0 w n b m hs hm (by omega) (by omega) (fun h => c3 ⟨by omega, h.2⟩)).mono ?_
  rintro e w' ⟨rfl, hb⟩
  refine ⟨?_, hb⟩
  cases b
  · simp only [Bool.false_eq_true, if_false, Option.some.injEq, Prod.mk.injEq] at h ⊢
    obtain ⟨rfl, rfl, rfl⟩ := h
    rfl
  · simp only [if_true, Option.some.injEq, Prod.mk.injEq] at h ⊢
    obtain ⟨rfl, rfl, rfl⟩ := h
    rfl


/-! ### bellmanref01_size: function 66 -/
def bellmanref01_size.f (a0 : Int) : Option (Int) := if a0 < 0 then (some (IntKind.u64.wrap ((IntKind.u64.wrap (wrap64 (-(wrap64 (a0 + 1))))) + 1))) else (some (IntKind.u64.wrap (a0)))
set_option maxHeartbeats 8000000 in
set_option maxRecDepth 100000 in
theorem bellmanref01_size.calls (a0 : Int) (r : Int) (w : World) (h : bellmanref01_size.f a0 = some r) :
    Calls Try.prog 66 #[.int .i64 a0] w fun e w' => e = .returned (.int .u64 r) ∧ Drawn0 w w' := by
  have H : (if a0 < 0 then (some (IntKind.u64.wrap ((IntKind.u64.wrap (wrap64 (-(wrap64 (a0 + 1))))) + 1))) else (some (IntKind.u64.wrap (a0)))) = some r := h
  clear h
  by_cases c2 : a0 < 0
  · rw [if_pos c2] at H
    have c2b0 : decide (a0 < 0) = true := decide_eq_true c2
    clear c2
    obtain rfl := Option.some.inj H
    go_enter Try.func66, Try.ntmps66
    go_wp2
    go_ret
    exact ⟨by first | rfl | (simp; done) | (simp [*]; done), by repeat (first | exact Drawn0.refl _ | apply Drawn0.step)⟩
  · rw [if_neg c2] at H
    have c2b0 : decide (a0 < 0) = false := decide_eq_false c2
    clear c2
    obtain rfl := Option.some.inj H
    go_enter Try.func66, Try.ntmps66
    go_wp2
    go_ret
    exact ⟨by first | rfl | (simp; done) | (simp [*]; done), by repeat (first | exact Drawn0.refl _ | apply Drawn0.step)⟩

/-! ### bellmanref01_Num: function 24 -/
def bellmanref01_Num.l0 : Nat → Int → ByteArray → Int → Option (ByteArray)
  | 0, _, _, _ => none
  | k + 1, x0, x3, x4 => if x4 > 0 then ((some (([(Int.tmod x4 256) % 256] : List Int) : List Int)).bind fun y102 => (if (strOfNums y102).size + x3.size ≤ 9223372036854775807 then (bellmanref01_Num.l0 k x0 ((strOfNums y102) ++ x3) (IntKind.u64.wrap (Int.tdiv x4 256))) else (none))) else (if x0 < 0 then ((some (([((((x3.size : Int)) % 256) + 128) % 256] : List Int) : List Int)).bind fun y105 => (if (strOfNums y105).size + x3.size ≤ 9223372036854775807 then (some ((strOfNums y105) ++ x3)) else (none))) else ((some (([((x3.size : Int)) % 256] : List Int) : List Int)).bind fun y108 => (if (strOfNums y108).size + x3.size ≤ 9223372036854775807 then (some ((strOfNums y108) ++ x3)) else (none))))
def bellmanref01_Num.f (k : Nat) (a0 : Int) : Option (ByteArray) := (bellmanref01_size.f a0).bind fun t101 => (bellmanref01_Num.l0 k a0 (⟨#[]⟩ : ByteArray) t101)
theorem bellmanref01_Num.mono_l : ∀ k, (∀ y0 y1 y2, LeO (bellmanref01_Num.l0 k y0 y1 y2) (bellmanref01_Num.l0 (k + 1) y0 y1 y2))
  | 0 => fun _ _ _ r h => by simp [bellmanref01_Num.l0] at h
  | k + 1 => by
    have ih0 := bellmanref01_Num.mono_l k
    · intro y0 y1 y2
      unfold bellmanref01_Num.l0
      repeat' first
      | (with_reducible exact ih0 _ _ _)
      | (with_reducible exact LeO.refl _)
      | (with_reducible exact LeO.none _)
      | (with_reducible refine LeO.ite ?_ ?_)
      | (with_reducible refine LeO.bind ?_ (fun _ => ?_))
      | exact ih0 _ _ _
      | exact LeO.none _
      | refine LeO.ite ?_ ?_
      | refine LeO.bind ?_ (fun _ => ?_)
theorem bellmanref01_Num.mono : ∀ a0 k, LeO (bellmanref01_Num.f k a0) (bellmanref01_Num.f (k + 1) a0) := by
  intro a0 k
  have ih0 := bellmanref01_Num.mono_l k
  unfold bellmanref01_Num.f
  repeat' first
      | (with_reducible exact ih0 _ _ _)
      | (with_reducible exact LeO.refl _)
      | (with_reducible exact LeO.none _)
      | (with_reducible refine LeO.ite ?_ ?_)
      | (with_reducible refine LeO.bind ?_ (fun _ => ?_))
      | exact ih0 _ _ _
      | exact LeO.none _
      | refine LeO.ite ?_ ?_
      | refine LeO.bind ?_ (fun _ => ?_)
set_option maxHeartbeats 8000000 in
set_option maxRecDepth 100000 in
theorem bellmanref01_Num.calls (k : Nat) (a0 : Int) (r : ByteArray) (w : World) (h : bellmanref01_Num.f k a0 = some r) :
    Calls Try.prog 24 #[.int .i64 a0] w fun e w' => e = .returned (.string r) ∧ Below w.heap.size w w' := by
  have HB := Aside0.mk (Below.refl w.heap.size w)
  have H : ((bellmanref01_size.f a0).bind fun t101 => (bellmanref01_Num.l0 k a0 (⟨#[]⟩ : ByteArray) t101)) = some r := h
  clear h
  replace H := Option.bind_eq_some_iff.mp H
  obtain ⟨t101, A20, H⟩ := H
  replace H : (bellmanref01_Num.l0 k a0 (⟨#[]⟩ : ByteArray) t101) = some r := H
  have A2 := Aside0.mk A20
  clear A20
  have H' := Aside0.mk H
  clear H
  go_enter Try.func24, Try.ntmps24
  go_wp2_with (first | ((with_reducible refine gate_callee (f := 66) rfl ?_); refine goesL_ (some 7) rfl rfl Try.func66 (by kernel_rfl) rfl #[.int .i64 a0] rfl (by (try simp only [List.map_toArray, List.map_cons, List.map_nil]); first | done | rfl | (simp only [List.length_drop, List.length_take]; rfl)) ?_; (with_reducible refine (bellmanref01_size.calls a0 t101 _ A2.out).mono ?_); rintro e w' ⟨rfl, ⟨nd, rfl⟩⟩; refine ⟨_, rfl, ?_⟩))
  go_loopg [3, 4] k (fun kq v3 v4 w' => ∃ (x3_1 : ByteArray) (x4_1 : Int), v3 = .string x3_1 ∧ v4 = .int .u64 x4_1 ∧ Aside0 (bellmanref01_Num.l0 kq a0 x3_1 x4_1 = some r) ∧ Aside0 (kq ≤ k) ∧ Aside0 (Below w.heap.size w w'))
  case atStart => exact ⟨((⟨#[]⟩ : ByteArray)), (t101), (by first | rfl | (simp; done) | (simp [*]; done)), (by first | rfl | (simp; done) | (simp [*]; done)), H', ⟨Nat.le_refl _⟩, ⟨by repeat (first | (with_reducible first | exact HB.out | apply below_alloc | apply pw_below_drewN | apply below_drew1) | exact HB.out)⟩⟩
  case round =>
    clear H'
    try clear c2
    try clear p2
    obtain ⟨x3_1, x4_1, rfl, rfl, HA, HK1, HB⟩ := hrel
    cases gk with
    | zero => exact absurd HA.out (by simp [bellmanref01_Num.l0])
    | succ k1 =>
      have H := HA.out
      clear HA
      simp only [bellmanref01_Num.l0] at H
      by_cases c3 : x4_1 > 0
      · rw [if_pos c3] at H
        have c3b0 : decide (0 < x4_1) = true := decide_eq_true c3
        clear c3
        obtain ⟨y102, hy102⟩ : ∃ y_ : List Int, y_ = (([(Int.tmod x4_1 256) % 256] : List Int)) := ⟨_, rfl⟩
        replace H : (if (strOfNums y102).size + x3_1.size ≤ 9223372036854775807 then (bellmanref01_Num.l0 k1 a0 ((strOfNums y102) ++ x3_1) (IntKind.u64.wrap (Int.tdiv x4_1 256))) else (none)) = some r := by first | (rw [hy102]; with_reducible exact H) | (have H2_ := (Option.bind_some _ _).symm.trans H; rw [hy102]; with_reducible exact H2_) | (have H2_ := (Option.bind_some _ _).symm.trans H; with_reducible exact H2_) | with_reducible exact H | (rw [hy102]; exact H) | exact H
        have Ny102 := Aside0.mk hy102
        clear hy102
        by_cases c4 : (strOfNums y102).size + x3_1.size ≤ 9223372036854775807
        · rw [if_pos c4] at H
          have c4b0 := eq_true c4
          have c4b1 : decide ((strOfNums y102).size + x3_1.size ≤ 9223372036854775807) = true := decide_eq_true c4
          try have c4b2 : (9223372036854775807 < (strOfNums y102).size + x3_1.size) = False := eq_false (Nat.not_lt.2 c4)
          have H' := Aside0.mk H
          clear H
          go_wp2_with (first | ((with_reducible refine gate_dst (N := 15) rfl ?_); refine Kd.R_lit (Kd.int .u8) _ 5 ?hg (N := 15) ?hd (xs := ([(Int.tmod x4_1 256) % 256] : List Int)) (inner := [.int .u8 ((Int.tmod x4_1 256) % 256)]) (ok := fun _ => True) (okp := fun _ => True) ?hr ?hp (fun _ hk => hk) trivial (Below.refl _ _) (Nat.le_refl _) (by simp) ?_; (case hd => rfl); (case hg => rfl); (case hr => first | (go_simp; done) | (go_simp; rfl)); (case hp => exact (Reps.one (show Kd.M (Kd.int .u8) _ _ _ ((Int.tmod x4_1 256) % 256) [.int .u8 ((Int.tmod x4_1 256) % 256)] from rfl) (Reps.none _ _))); intro v103 w5 ho6 hb hg_ hnew_; clear hg_ hnew_; (first | rw [← Ny102.out] at ho6 | (simp only [Int.reduceToNat] at ho6; rw [← Ny102.out] at ho6)); have n0_ := Aside0.mk (Kd.R_lower ho6 (below_size (by repeat (first | (with_reducible first | exact HB.out | apply below_alloc | apply pw_below_drewN | apply below_drew1) | exact HB.out)))); have n1_ := Aside0.mk (below_step (by repeat (first | (with_reducible first | exact HB.out | apply below_alloc | apply pw_below_drewN | apply below_drew1) | exact HB.out)) hb); clear HB; have HO104 := n0_; have HB := n1_; clear n0_ n1_; clear hb ho6; have hcv7 := own_string (P := Try.prog) Try.underlying41 Try.underlying5 Try.underlying9 (Kd.own_of_R HO104.out)))
          go_roundg k1
          case measure => have := HK1.out; omega
          case rel => exact ⟨((strOfNums y102) ++ x3_1), (IntKind.u64.wrap (Int.tdiv x4_1 256)), (by first | rfl | (simp; done) | (simp [*]; done)), (by first | rfl | (simp; done) | (simp [*]; done)), H', ⟨by have := HK1.out; omega⟩, ⟨by repeat (first | (with_reducible first | exact HB.out | apply below_alloc | apply pw_below_drewN | apply below_drew1) | exact HB.out)⟩⟩
        · rw [if_neg c4] at H
          exact absurd H (by simp)
      · rw [if_neg c3] at H
        have c3b0 : decide (0 < x4_1) = false := decide_eq_false c3
        clear c3
        by_cases c8 : a0 < 0
        · rw [if_pos c8] at H
          have c8b0 : decide (a0 < 0) = true := decide_eq_true c8
          clear c8
          obtain ⟨y105, hy105⟩ : ∃ y_ : List Int, y_ = (([((((x3_1.size : Int)) % 256) + 128) % 256] : List Int)) := ⟨_, rfl⟩
          replace H : (if (strOfNums y105).size + x3_1.size ≤ 9223372036854775807 then (some ((strOfNums y105) ++ x3_1)) else (none)) = some r := by first | (rw [hy105]; with_reducible exact H) | (have H2_ := (Option.bind_some _ _).symm.trans H; rw [hy105]; with_reducible exact H2_) | (have H2_ := (Option.bind_some _ _).symm.trans H; with_reducible exact H2_) | with_reducible exact H | (rw [hy105]; exact H) | exact H
          have Ny105 := Aside0.mk hy105
          clear hy105
          by_cases c9 : (strOfNums y105).size + x3_1.size ≤ 9223372036854775807
          · rw [if_pos c9] at H
            have c9b0 := eq_true c9
            have c9b1 : decide ((strOfNums y105).size + x3_1.size ≤ 9223372036854775807) = true := decide_eq_true c9
            try have c9b2 : (9223372036854775807 < (strOfNums y105).size + x3_1.size) = False := eq_false (Nat.not_lt.2 c9)
            obtain rfl := Option.some.inj H
            go_wp2_with (first | ((with_reducible refine gate_dst (N := 27) rfl ?_); refine Kd.R_lit (Kd.int .u8) _ 5 ?hg (N := 27) ?hd (xs := ([((((x3_1.size : Int)) % 256) + 128) % 256] : List Int)) (inner := [.int .u8 (((((x3_1.size : Int)) % 256) + 128) % 256)]) (ok := fun _ => True) (okp := fun _ => True) ?hr ?hp (fun _ hk => hk) trivial (Below.refl _ _) (Nat.le_refl _) (by simp) ?_; (case hd => rfl); (case hg => rfl); (case hr => first | (go_simp; done) | (go_simp; rfl)); (case hp => exact (Reps.one (show Kd.M (Kd.int .u8) _ _ _ (((((x3_1.size : Int)) % 256) + 128) % 256) [.int .u8 (((((x3_1.size : Int)) % 256) + 128) % 256)] from rfl) (Reps.none _ _))); intro v106 w10 ho11 hb hg_ hnew_; clear hg_ hnew_; (first | rw [← Ny105.out] at ho11 | (simp only [Int.reduceToNat] at ho11; rw [← Ny105.out] at ho11)); have n0_ := Aside0.mk (Kd.R_lower ho11 (below_size (by repeat (first | (with_reducible first | exact HB.out | apply below_alloc | apply pw_below_drewN | apply below_drew1) | exact HB.out)))); have n1_ := Aside0.mk (below_step (by repeat (first | (with_reducible first | exact HB.out | apply below_alloc | apply pw_below_drewN | apply below_drew1) | exact HB.out)) hb); clear HB; have HO107 := n0_; have HB := n1_; clear n0_ n1_; clear hb ho11; have hcv12 := own_string (P := Try.prog) Try.underlying41 Try.underlying5 Try.underlying9 (Kd.own_of_R HO107.out)))
            go_ret
            exact ⟨by first | rfl | (simp [errW_none, errW_some] <;> rfl) | (simp [*, errW_none, errW_some] <;> rfl), by repeat (first | (with_reducible first | exact HB.out | apply below_alloc | apply pw_below_drewN | apply below_drew1) | exact HB.out)⟩
          · rw [if_neg c9] at H
            exact absurd H (by simp)
        · rw [if_neg c8] at H
          have c8b0 : decide (a0 < 0) = false := decide_eq_false c8
          clear c8
          obtain ⟨y108, hy108⟩ : ∃ y_ : List Int, y_ = (([((x3_1.size : Int)) % 256] : List Int)) := ⟨_, rfl⟩
          replace H : (if (strOfNums y108).size + x3_1.size ≤ 9223372036854775807 then (some ((strOfNums y108) ++ x3_1)) else (none)) = some r := by first | (rw [hy108]; with_reducible exact H) | (have H2_ := (Option.bind_some _ _).symm.trans H; rw [hy108]; with_reducible exact H2_) | (have H2_ := (Option.bind_some _ _).symm.trans H; with_reducible exact H2_) | with_reducible exact H | (rw [hy108]; exact H) | exact H
          have Ny108 := Aside0.mk hy108
          clear hy108
          by_cases c13 : (strOfNums y108).size + x3_1.size ≤ 9223372036854775807
          · rw [if_pos c13] at H
            have c13b0 := eq_true c13
            have c13b1 : decide ((strOfNums y108).size + x3_1.size ≤ 9223372036854775807) = true := decide_eq_true c13
            try have c13b2 : (9223372036854775807 < (strOfNums y108).size + x3_1.size) = False := eq_false (Nat.not_lt.2 c13)
            obtain rfl := Option.some.inj H
            go_wp2_with (first | ((with_reducible refine gate_dst (N := 27) rfl ?_); refine Kd.R_lit (Kd.int .u8) _ 5 ?hg (N := 27) ?hd (xs := ([((x3_1.size : Int)) % 256] : List Int)) (inner := [.int .u8 (((x3_1.size : Int)) % 256)]) (ok := fun _ => True) (okp := fun _ => True) ?hr ?hp (fun _ hk => hk) trivial (Below.refl _ _) (Nat.le_refl _) (by simp) ?_; (case hd => rfl); (case hg => rfl); (case hr => first | (go_simp; done) | (go_simp; rfl)); (case hp => exact (Reps.one (show Kd.M (Kd.int .u8) _ _ _ (((x3_1.size : Int)) % 256) [.int .u8 (((x3_1.size : Int)) % 256)] from rfl) (Reps.none _ _))); intro v109 w14 ho15 hb hg_ hnew_; clear hg_ hnew_; (first | rw [← Ny108.out] at ho15 | (simp only [Int.reduceToNat] at ho15; rw [← Ny108.out] at ho15)); have n0_ := Aside0.mk (Kd.R_lower ho15 (below_size (by repeat (first | (with_reducible first | exact HB.out | apply below_alloc | apply pw_below_drewN | apply below_drew1) | exact HB.out)))); have n1_ := Aside0.mk (below_step (by repeat (first | (with_reducible first | exact HB.out | apply below_alloc | apply pw_below_drewN | apply below_drew1) | exact HB.out)) hb); clear HB; have HO110 := n0_; have HB := n1_; clear n0_ n1_; clear hb ho15; have hcv16 := own_string (P := Try.prog) Try.underlying41 Try.underlying5 Try.underlying9 (Kd.own_of_R HO110.out)))
            go_ret
            exact ⟨by first | rfl | (simp [errW_none, errW_some] <;> rfl) | (simp [*, errW_none, errW_some] <;> rfl), by repeat (first | (with_reducible first | exact HB.out | apply below_alloc | apply pw_below_drewN | apply below_drew1) | exact HB.out)⟩
          · rw [if_neg c13] at H
            exact absurd H (by simp)

end Go.Proofs.Ytgcilfpoblijnaa.X
