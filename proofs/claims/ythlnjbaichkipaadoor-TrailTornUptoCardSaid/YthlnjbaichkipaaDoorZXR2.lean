-- by px.py, a program of this session, over the kit's printer: functions given by hand stand beside printed ones. Lean checks all of it.
import Derived.Test.YthlnjbaichkipaaDoorZXR0
import Derived.Test.YthlnjbaichkipaaDoorZGLen64
import Derived.Test.YthlnjbaichkipaaDoorZGSum
namespace Go.Proofs.YthlnjbaichkipaaDoor.XR
open Go.RowKit Go.Proofs.YthlnjbaichkipaaDoorW.PrintWords Go.Proofs.YthlnjbaichkipaaDoorW.PrintLast Go.Proofs.YthlnjbaichkipaaDoorW.PrintMore
attribute [local go_sem] max2_int min2_int max_two min_two max_three min_three max_four min_four   -- for this text's walks alone
set_option linter.unusedVariables false
set_option linter.unusedSimpArgs false
def bits_Len64.f (a0 : Int) : Option (Int) := if 0 ≤ a0 ∧ a0 ≤ 18446744073709551615 then some (Lib.bitLen a0.toNat : Nat) else none
theorem bits_Len64.calls (a0 : Int) (r : Int) (w : World) (h : bits_Len64.f a0 = some r) :
  Calls Tryd.prog 65 #[.int .u64 a0] w fun e w' => e = .returned (.int .i64 r) ∧ Drawn0 w w' := by
 unfold bits_Len64.f at h
 split at h
 ·rename_i hc
  obtain rfl := Option.some.inj h
  refine (bits_Len64.len a0 w hc.1 hc.2).mono ?_
  rintro e w' ⟨rfl, rfl⟩
  exact ⟨rfl, Drawn0.refl _⟩
 ·cases h


def wire_Put.many (n : Int) : Nat := (Lib.bitLen n.natAbs + 7) / 8
def wire_Put.byte (m i : Nat) : Int := (m : Int) / 2 ^ (8 * (7 - i)) % 256
def wire_Put.bytes (n : Int) : List Int :=
 Go.bits .or .u8 (if n < 0 then 128 else 0) (wire_Put.many n : Int) :: ((List.range 8).map (wire_Put.byte n.natAbs)).drop (8 - wire_Put.many n)
def wire_Put.f (l0 : List Int) (a1 : Int) : Option (List Int) :=
 if -9223372036854775808 ≤ a1 ∧ a1 ≤ 9223372036854775807 ∧ l0.length + 9 ≤ 140737488355328 then some (l0 ++ wire_Put.bytes a1) else none
theorem wire_Put.bitLen_le (n : Nat) : Lib.bitLen n ≤ 64 := by
 have h : ∀ f x, Lib.bitLenAux f x ≤ f := by
  intro f
  induction f with
  | zero => intro x; exact Nat.le_refl _
  | succ f ih =>
   intro x
   unfold Lib.bitLenAux
   split
   ·omega
   ·have := ih (x / 2); omega
 exact h 64 n
def wire_Put.arr (m k : Nat) : Array Value := ((List.range 8).map fun i => Value.int .u8 (if i < k then wire_Put.byte m i else 0)).toArray
structure wire_Put.Arr (m g k : Nat) (w W : World) : Prop where
 below : Below g w W
 size : W.heap.size = g + 1
 blk : W.heap[g]? = some (.cells (wire_Put.arr m k) 121 (0, 0))
theorem wire_Put.Arr.cell {m g k : Nat} {w W : World} (h : wire_Put.Arr m g k w W) (j : Nat) (hj : j < 8) : W.cell? ⟨g, j, none⟩ = some (.int .u8 (if j < k then wire_Put.byte m j else 0)) := by
 rw [cell_of_row W g j _ _ _ h.blk]
 simp [wire_Put.arr, hj]
theorem wire_Put.Arr.frozen {m g k : Nat} {w W : World} (h : wire_Put.Arr m g k w W) (j : Nat) : W.frozen? ⟨g, j, none⟩ = false := by
 have := h.blk
 simp [World.frozen?, this]
theorem wire_Put.Arr.first (m : Nat) (w : World) (cs : Array Value) (h : cs = #[.int .u8 0, .int .u8 0, .int .u8 0, .int .u8 0, .int .u8 0, .int .u8 0, .int .u8 0, .int .u8 0]) : wire_Put.Arr m w.heap.size 0 w (w.alloc (.cells cs 121)) := by
 refine ⟨(Below.refl _ _).alloc (Nat.le_refl _) _, by simp, ?_⟩
 rw [heap_alloc_new, h]
 rfl
theorem wire_Put.Arr.step {m g k : Nat} {w W : World} (h : wire_Put.Arr m g k w W) (hk : k < 8) : wire_Put.Arr m g (k + 1) w (W.setCell ⟨g, k, none⟩ (.int .u8 (wire_Put.byte m k))) := by
 refine ⟨h.below.setCell (p := ⟨g, k, none⟩) (Nat.le_refl _) _, by simp [World.setCell, h.size], ?_⟩
 rw [blk_set h.blk k _]
 congr 2
 apply Array.ext
 ·simp [wire_Put.arr]
 ·intro i h1 h2
  rw [Array.getElem_setIfInBounds (by simpa using h1)]
  by_cases hi : k = i
  ·subst hi; simp [wire_Put.arr]
  ·rw [if_neg hi]
   have h3 : (i < k + 1) ↔ (i < k) := by omega
   simp [wire_Put.arr, h3]
theorem wire_Put.cutArr (g nm : Nat) (h : nm ≤ 8) : ∃ A : Addr, (0 < nm → A = ⟨g, 8 - nm, none⟩) ∧ ∀ W : World, (Instr.sliceAt 121 (.pointer (some ⟨g, 0, none⟩)) (some (.int .i64 (8 - (nm : Int)))) none none).run Tryd.prog W = .ok (.slice (some A) nm nm) W := by
 refine ⟨if 8 = 8 - nm then ⟨g, 0, none⟩ else (⟨g, 0, none⟩ : Addr).add (8 - nm), fun h0 => ?_, fun W => ?_⟩
 ·rw [if_neg (by omega), add_plain]
 ·have ha : Tryd.prog.arrayLen 121 = 8 := by kernel_rfl
  have he : Tryd.prog.elem 121 = 5 := by kernel_rfl
  obtain ⟨i0, hi, hz⟩ := info_parts info5
  rw [run_sliceAt_array_l W 121 ⟨g, 0, none⟩ (by rw [ha, he]; exact Tryd.underlying121) .i64 (8 - (nm : Int)) (by omega) (by rw [ha]; omega), ha, he]
  have ht : (8 - (nm : Int)).toNat = 8 - nm := by omega
  simp [slicedAt, ht, sizeOf, typeInfo, hi, hz.2.1, Result.andThen, show 8 - (8 - nm) = nm by omega]
theorem wire_Put.Arr.reads {m g nm : Nat} {w W : World} {A : Addr} (h : W.heap[g]? = some (.cells (wire_Put.arr m 8) 121 (0, 0))) (hn : nm ≤ 8) (hA : 0 < nm → A = ⟨g, 8 - nm, none⟩) : (Kd.int .u8).C W (some A) nm (((List.range 8).map (wire_Put.byte m)).drop (8 - nm)) := by
 refine Kd.C_of_reads (d := 0) ⟨by simp; omega, by omega, fun h0 => ⟨A, rfl, fun j hj => ?_⟩⟩
 rw [hA h0]
 have e : (⟨g, 8 - nm, none⟩ : Addr).add j = ⟨g, 8 - nm + j, none⟩ := by unfold Addr.add; split <;> simp_all
 rw [e, cell_of_row W g _ _ _ _ h]
 have hlt : 8 - nm + j < 8 := by omega
 simp [wire_Put.arr, List.getD_eq_getElem?_getD, List.getElem?_drop, List.getElem?_range, hlt]
set_option maxHeartbeats 400000 in
set_option maxRecDepth 100000 in
theorem wire_Put.calls (P0_ : Nat → Prop) (u9000_ : Value) (l0 : List Int) (a1 : Int) (r : List Int) (w0 w : World) (hB : Below w0.heap.size w0 w) (ho0 : Kd.R (Kd.int .u8) 5 w w0.heap.size P0_ u9000_ l0) (h : wire_Put.f l0 a1 = some r) :
  Calls Tryd.prog 53 #[u9000_, .int .i64 a1] w fun e w' => ∃ v0_ : Value, e = .returned (v0_) ∧ Kd.R (Kd.int .u8) 5 w' w0.heap.size (fun k_ => (P0_ k_ ∨ w.heap.size ≤ k_)) v0_ r ∧ Below w0.heap.size w0 w' ∧ Kept w w' (fun k_ => P0_ k_) := by
 unfold wire_Put.f at h
 split at h
 rotate_left
 ·cases h
 rename_i hc
 obtain rfl := Option.some.inj h
 obtain ⟨hlo, hhi, hlen⟩ := hc
 clear h
 have HO := Lib.hid ho0; clear ho0
 obtain ⟨m, hm⟩ : ∃ m : Nat, (m : Int) = a1.natAbs := ⟨_, rfl⟩
 have hmb : m ≤ 9223372036854775808 := by omega
 have HM := Lib.hid hm; clear hm
 have hbl := wire_Put.bitLen_le m
 obtain ⟨bn, hbn⟩ : ∃ bn, Lib.bitLen m = bn := ⟨_, rfl⟩
 rw [hbn] at hbl
 obtain ⟨nm, hnm⟩ : ∃ nm : Nat, ((bn : Int) + 7) / 8 = (nm : Int) := ⟨(bn + 7) / 8, by omega⟩
 have hnm8 : nm ≤ 8 := by omega
 have hw8 : wrap64 (8 - (nm : Int)) = 8 - (nm : Int) := by unfold wrap64; omega
 have hwu : IntKind.u8.wrap (nm : Int) = (nm : Int) := by rw [IntKind.wrap_u8]; omega
 have HP : Hid (wire_Put.bytes a1 = bits .or .u8 (if a1 < 0 then 128 else 0) (nm : Int) :: ((List.range 8).map (wire_Put.byte m)).drop (8 - nm)) := by
  refine Lib.hid ?_
  have e : a1.natAbs = m := by have := HM.out; omega
  have e2 : wire_Put.many a1 = nm := by unfold wire_Put.many; rw [e, hbn]; omega
  unfold wire_Put.bytes
  rw [e2, e]
 have HBN := Lib.hid hbn; clear hbn
 have HS : ∃ h0 : Int, Hid ((if a1 < 0 then 128 else 0) = h0) ∧ (a1 < 0 ∧ h0 = 128 ∧ IntKind.u64.wrap (-(IntKind.u64.wrap a1)) = (m : Int) ∨ 0 ≤ a1 ∧ h0 = 0 ∧ IntKind.u64.wrap a1 = (m : Int)) := by
  have hm := HM.out
  by_cases hn : a1 < 0
  ·exact ⟨128, Lib.hid (by rw [if_pos hn]), .inl ⟨hn, rfl, by rw [IntKind.wrap_u64, IntKind.wrap_u64]; omega⟩⟩
  ·exact ⟨0, Lib.hid (by rw [if_neg hn]), .inr ⟨by omega, rfl, by rw [IntKind.wrap_u64]; omega⟩⟩
 obtain ⟨h0, HH, hcase⟩ := HS
 obtain ⟨hv, hhv⟩ : ∃ hv, bits .or .u8 h0 (nm : Int) = hv := ⟨_, rfl⟩
 have HV := Lib.hid (show wire_Put.bytes a1 = hv :: ((List.range 8).map (wire_Put.byte m)).drop (8 - nm) by rw [HP.out, HH.out, hhv])
 clear HP HH HM
 rcases hcase with ⟨hn, rfl, e1⟩ | ⟨hn, rfl, e1⟩
 all_goals (first | have hd : decide (a1 < 0) = true := decide_eq_true hn | have hd : decide (a1 < 0) = false := decide_eq_false (by omega))
 all_goals
  go_enter Tryd.func53, Tryd.ntmps53
  go_wp2_with (go_at_call 65; refine (bits_Len64.calls (m : Int) (bn : Int) _ (by unfold bits_Len64.f; rw [if_pos (by omega), Int.toNat_natCast, HBN.out])).mono ?_; rintro e w' ⟨rfl, hd⟩)
  obtain ⟨Aa, hAa, hcut⟩ := wire_Put.cutArr w'.heap.size nm hnm8
  have HAa := Lib.hid hAa; clear hAa
  have ha := wire_Put.Arr.first m w' _ rfl
  have HA := Lib.hid ha; clear ha
  go_loopw [20] (fun v20 wr => ∃ k : Nat, k ≤ 8 ∧ v20 = .int .i64 k ∧ Hid (wire_Put.Arr m w'.heap.size k w' wr)) (fun v20 _ => 8 - (intOf v20).toNat)
  case atStart => exact ⟨0, by omega, rfl, HA⟩
  case round =>
   clear HA
   obtain ⟨k, hk, rfl, HA⟩ := hrel
   by_cases hk8 : k < 8
   ·have hcell := HA.out.cell k hk8
    have hfr := HA.out.frozen k
    clear hcut hhv hwu hw8
    go_wp2
    go_roundw
    case rel => exact ⟨k + 1, by omega, by go_num, Lib.hid (HA.out.step hk8)⟩
    case measure => simp [intOf]; omega
   ·obtain rfl : k = 8 := by omega
    go_wp2
    have hs1 := hd.below
    have hs2 := HA.out.below
    have hs3 := HA.out.blk
    have hb := below_drew1 (below_then hs1 hs1.size hs2)
    have HBW := Lib.hid hb; have HBL := Lib.hid (show wr.drew.heap[w'.heap.size]? = _ from hs3)
    clear HA hs1 hs2 hs3 hb
    refine start_ (n := 12) (S := fun w' => True) (ds := []) #[false, false, false, false, false, false, false, false, false, false, false, false] (by kernel_rfl) rfl rfl trivial (fun hHeld => ?_)
    generalize wr.drew = W1 at HBW HBL ⊢
    refine pure_ (i := 0) (N := some 32) (v := ?_) (a' := ?_) #[true, false, false, false, false, false, false, false, false, false, false, false] rfl rfl (by kernel_rfl) (fun _ _ _ h => h) (Or.inl ⟨by rfl, ?_⟩) ?_ ?_
    rotate_left
    ·intro w'
     go_simp
     with_reducible rfl
    rotate_left
    ·simp only [Act.put, List.setIfInBounds_toArray, List.set_cons_zero, List.set_cons_succ, i64_w, i32_w]
     rfl
    refine pure_ (i := 1) (N := some 33) (v := ?_) (a' := ?_) #[true, true, false, false, false, false, false, false, false, false, false, false] rfl rfl (by kernel_rfl) (fun _ _ _ h => h) (Or.inl ⟨by rfl, ?_⟩) ?_ ?_
    rotate_left
    ·intro w'
     go_simp
     with_reducible rfl
    rotate_left
    ·simp only [Act.put, List.setIfInBounds_toArray, List.set_cons_zero, List.set_cons_succ, i64_w, i32_w]
     rfl
    refine pure_ (i := 2) (N := some 34) (v := ?_) (a' := ?_) #[true, true, true, false, false, false, false, false, false, false, false, false] rfl rfl (by kernel_rfl) (fun _ _ _ h => h) (Or.inl ⟨by rfl, ?_⟩) ?_ ?_
    rotate_left
    ·intro w'
     go_simp
     with_reducible rfl
    rotate_left
    ·simp only [Act.put, List.setIfInBounds_toArray, List.set_cons_zero, List.set_cons_succ, i64_w, i32_w]
     rfl
    refine pure_ (i := 3) (N := some 35) (v := ?_) (a' := ?_) #[true, true, true, true, false, false, false, false, false, false, false, false] rfl rfl (by kernel_rfl) (fun _ _ _ h => h) (Or.inl ⟨by rfl, ?_⟩) ?_ ?_
    rotate_left
    ·intro w'
     go_simp
     with_reducible rfl
    rotate_left
    ·simp only [Act.put, List.setIfInBounds_toArray, List.set_cons_zero, List.set_cons_succ, i64_w, i32_w]
     rfl
    refine pure_ (i := 4) (N := some 36) (v := ?_) (a' := ?_) #[true, true, true, true, true, false, false, false, false, false, false, false] rfl rfl (by kernel_rfl) (fun _ _ _ h => h) (Or.inl ⟨by rfl, ?_⟩) ?_ ?_
    rotate_left
    ·intro w'
     go_simp
     with_reducible rfl
    rotate_left
    ·simp only [Act.put, List.setIfInBounds_toArray, List.set_cons_zero, List.set_cons_succ, i64_w, i32_w]
     rfl
    refine pure_ (i := 7) (N := some 39) (v := ?_) (a' := ?_) #[true, true, true, true, true, false, false, true, false, false, false, false] rfl rfl (by kernel_rfl) (fun _ _ _ h => h) (Or.inl ⟨by rfl, ?_⟩) ?_ ?_
    rotate_left
    ·intro w'
     go_simp
     with_reducible rfl
    rotate_left
    ·simp only [Act.put, List.setIfInBounds_toArray, List.set_cons_zero, List.set_cons_succ, i64_w, i32_w]
     rfl
    refine pure_ (i := 8) (N := some 40) (v := ?_) (a' := ?_) #[true, true, true, true, true, false, false, true, true, false, false, false] rfl rfl (by kernel_rfl) (fun _ _ _ h => h) (Or.inl ⟨by rfl, ?_⟩) ?_ ?_
    rotate_left
    ·intro w'
     go_simp
     with_reducible rfl
    rotate_left
    ·simp only [Act.put, List.setIfInBounds_toArray, List.set_cons_zero, List.set_cons_succ, i64_w, i32_w]
     rfl
    refine pure_ (i := 9) (N := some 41) (v := ?_) (a' := ?_) #[true, true, true, true, true, false, false, true, true, true, false, false] rfl rfl (by kernel_rfl) (fun _ _ _ h => h) (Or.inl ⟨by rfl, ?_⟩) ?_ ?_
    rotate_left
    ·intro w'
     go_simp
     with_reducible rfl
    rotate_left
    ·simp only [Act.put, List.setIfInBounds_toArray, List.set_cons_zero, List.set_cons_succ, i64_w, i32_w]
     rfl
    refine one_ (i := 5) (N := some 37) #[true, true, true, true, true, true, false, true, true, true, false, false] rfl rfl (by kernel_rfl) (by decide) (fun K hK => ?_)
    refine event_step (w1 := W1.alloc (.cells #[.int .u8 hv] 5)) (v := .slice (some ⟨W1.heap.size, 0, none⟩) 1 1) rfl (by go_simp) ?_
    refine hK.out _ _ trivial (fun hHeld => ?_)
    clear hK K
    refine norm_ (a' := ?_) ?_ ?_
    rotate_left
    ·show Act.put _ (some 37) _ = _
     simp only [Act.put, List.setIfInBounds_toArray, List.set_cons_zero, List.set_cons_succ, i64_w, i32_w]
     rfl
    have hsz := HBW.out.size
    have HO1 : Kd.R (Kd.int .u8) 5 W1 w0.heap.size (fun k_ => P0_ k_ ∨ w.heap.size ≤ k_) u9000_ l0 := Kd.R_mono (Kd.R_below HO.out HBW.out) (fun _ hk => .inl hk)
    have hne := Kd.R_ne HO1 HBL.out (by decide)
    have hB1 : Below w0.heap.size w0 W1 := below_then hB hB.size HBW.out
    refine one_ (i := 6) (N := some 38) #[true, true, true, true, true, true, true, true, true, true, false, false] rfl rfl (by kernel_rfl) (by decide) (fun K hK => ?_)
    refine Kd.R_append_step (Kd.int .u8) (w0 := w0) w0.heap.size rfl (.tmp 32) (.tmp 37) 48 5 (.int .u8 0) 1 rfl Tryd.underlying48 info5 rfl (by decide) (by decide) u9000_ l0 hv [.int .u8 hv] (fun k_ => P0_ k_ ∨ w.heap.size ≤ k_) (fun _ => False) rfl rfl rfl (fun _ h => h.elim) (fun k_ hk => .inr (Nat.le_trans hsz hk)) HO1 hB1 hB1.size (by omega) ?_
    intro v1 w1 HO2 hb2 hg2 hat2
    refine hK.out _ _ trivial (fun hHeld => ?_)
    clear hK K
    refine norm_ (a' := ?_) ?_ ?_
    rotate_left
    ·show Act.put _ (some 38) _ = _
     simp only [Act.put, List.setIfInBounds_toArray, List.set_cons_zero, List.set_cons_succ, i64_w, i32_w]
     rfl
    have HC := wire_Put.Arr.reads (w := w') (nm := nm) (A := Aa) (blk_grown HBL.out hg2 hne) hnm8 HAa.out
    refine one_ (i := 10) (N := some 42) #[true, true, true, true, true, true, true, true, true, true, true, false] rfl rfl (by kernel_rfl) (by decide) (fun K hK => ?_)
    refine Kd.R_append_rows_step (Kd.int .u8) (w0 := w0) w0.heap.size rfl (.tmp 38) (.tmp 41) 48 5 (.int .u8 0) 1 rfl Tryd.underlying48 info5 rfl (by decide) (by decide) v1 (l0 ++ [hv]) (((List.range 8).map (wire_Put.byte m)).drop (8 - nm)) (some Aa) nm nm (fun k_ => P0_ k_ ∨ w.heap.size ≤ k_) (fun _ => False) rfl rfl HO2 HC (fun _ _ h => h) (fun _ h => h.elim) (fun k_ hk => .inr (Nat.le_trans hsz (Nat.le_trans hg2.size hk))) hb2 hb2.size (by simp; omega) ?_
    intro v2 w2 HO3 hb3 hg3 hat3
    refine hK.out _ _ trivial (fun hHeld => ?_)
    clear hK K
    refine norm_ (a' := ?_) ?_ ?_
    rotate_left
    ·show Act.put _ (some 42) _ = _
     simp only [Act.put, List.setIfInBounds_toArray, List.set_cons_zero, List.set_cons_succ, i64_w, i32_w]
     rfl
    refine pure_ (i := 11) (N := some 4) (v := ?_) (a' := ?_) #[true, true, true, true, true, true, true, true, true, true, true, true] rfl rfl (by kernel_rfl) (fun _ _ _ h => h) (Or.inl ⟨by rfl, ?_⟩) ?_ ?_
    rotate_left
    ·intro w'
     go_simp
     with_reducible rfl
    rotate_left
    ·simp only [Act.put, List.setIfInBounds_toArray, List.set_cons_zero, List.set_cons_succ, i64_w, i32_w]
     rfl
    refine done_ (by kernel_rfl) ?_
    go_wp2
    go_ret
    refine ⟨_, rfl, ?_, hb3, ?_⟩
    ·rw [HV.out, List.append_cons]; exact HO3
    ·exact Kept.of_grown hg3 (Kept.of_grown hg2 (Kept.of_below HBW.out _) (fun k hk => HO1.1 k hk)) (fun k hk => HO2.1 k hk)


def wire_Num.f (a0 : Int) : Option (ByteArray) := (wire_Put.f ([] : List Int) a0).bind fun t101 => (some (strOfNums t101))
set_option maxHeartbeats 8000000 in
set_option maxRecDepth 100000 in
theorem wire_Num.calls (a0 : Int) (r : ByteArray) (w : World) (h : wire_Num.f a0 = some r) :
  Calls Tryd.prog 32 #[.int .i64 a0] w fun e w' => e = .returned (.string r) ∧ Below w.heap.size w w' := by
 have HB := Aside0.mk (Below.refl w.heap.size w)
 have H : ((wire_Put.f ([] : List Int) a0).bind fun t101 => (some (strOfNums t101))) = some r := h
 clear h
 replace H := Option.bind_eq_some_iff.mp H
 obtain ⟨t101, A20, H⟩ := H
 replace H : (some (strOfNums t101)) = some r := H
 have A2 := Aside0.mk A20
 clear A20
 obtain rfl := Option.some.inj H
 go_enter Tryd.func32, Tryd.ntmps32
 go_wp2_with (first | ((with_reducible refine gate_callee (f := 53) rfl ?_); refine goesL_ (some 4) rfl rfl Tryd.func53 (by kernel_rfl) rfl #[.slice none 0 0, .int .i64 a0] rfl (by (try simp only [List.map_toArray, List.map_cons, List.map_nil]); first | done | rfl | (simp only [List.length_drop, List.length_take]; rfl)) ?_; (refine (wire_Put.calls (fun k_ => some k_ = (.slice none 0 0 : Value).ownBlock) (.slice none 0 0) ([] : List Int) a0 t101 w _ ?side1 ?side2 A2.out).mono ?_); (case side1 => repeat (first | (with_reducible first | exact HB.out | apply below_alloc | apply pw_below_drewN | apply below_drew1) | exact HB.out)); (case side2 => exact Kd.R_nil _ _ _ _ _); rintro e w3 ⟨v102, rfl, ho0, hb, hkp⟩; refine ⟨_, rfl, ?_⟩; have n0_ := Aside0.mk (Kd.R_mono (ok' := fun k_ => True) ho0 (fun k_ hk_ => trivial)); have n1_ := Aside0.mk (hb); clear HB; have HO103 := n0_; have HB := n1_; clear n0_ n1_; (try clear hb); (try clear hkp); (try clear ho0); have hcv4 := own_string (P := Tryd.prog) Tryd.underlying48 Tryd.underlying5 Tryd.underlying9 (Kd.own_of_R HO103.out)))
 go_ret
 exact ⟨by first | rfl | (simp [errW_none, errW_some] <;> rfl) | (simp [*, errW_none, errW_some] <;> rfl), by repeat (first | (with_reducible first | exact HB.out | apply below_alloc | apply pw_below_drewN | apply below_drew1) | exact HB.out)⟩

def sum_bytes.f (a0 : Int) : Option (ByteArray) := some (strOfNums (([(a0) % 256, (a0 / 256) % 256, (a0 / 65536) % 256, (a0 / 16777216) % 256] : List Int)))
set_option maxHeartbeats 8000000 in
set_option maxRecDepth 100000 in
theorem sum_bytes.calls (a0 : Int) (r : ByteArray) (w : World) (h : sum_bytes.f a0 = some r) :
  Calls Tryd.prog 66 #[.int .u32 a0] w fun e w' => e = .returned (.string r) ∧ Below w.heap.size w w' := by
 have HB := Aside0.mk (Below.refl w.heap.size w)
 have H : (some (strOfNums (([(a0) % 256, (a0 / 256) % 256, (a0 / 65536) % 256, (a0 / 16777216) % 256] : List Int)))) = some r := h
 clear h
 obtain ⟨y104, hy104⟩ : ∃ y_ : List Int, y_ = (([(a0) % 256, (a0 / 256) % 256, (a0 / 65536) % 256, (a0 / 16777216) % 256] : List Int)) := ⟨_, rfl⟩
 replace H : (some (strOfNums y104)) = some r := by first | (rw [hy104]; with_reducible exact H) | (have H2_ := (Option.bind_some _ _).symm.trans H; rw [hy104]; with_reducible exact H2_) | (have H2_ := (Option.bind_some _ _).symm.trans H; with_reducible exact H2_) | with_reducible exact H | (rw [hy104]; exact H) | exact H
 have Ny104 := Aside0.mk hy104
 clear hy104
 obtain rfl := Option.some.inj H
 go_enter Tryd.func66, Tryd.ntmps66
 go_wp2_with (first | ((with_reducible refine gate_dst (N := 14) rfl ?_); refine Kd.R_lit (Kd.int .u8) _ 5 ?hg (N := 14) ?hd (xs := ([(a0) % 256, (a0 / 256) % 256, (a0 / 65536) % 256, (a0 / 16777216) % 256] : List Int)) (inner := [.int .u8 ((a0) % 256), .int .u8 ((a0 / 256) % 256), .int .u8 ((a0 / 65536) % 256), .int .u8 ((a0 / 16777216) % 256)]) (ok := fun _ => True) (okp := fun _ => True) ?hr ?hp (fun _ hk => hk) trivial (Below.refl _ _) (Nat.le_refl _) (by simp) ?_; (case hd => rfl); (case hg => rfl); (case hr => first | (go_simp; done) | (go_simp; rfl)); (case hp => exact (Reps.one (show Kd.M (Kd.int .u8) _ _ _ ((a0) % 256) [.int .u8 ((a0) % 256)] from rfl) (Reps.one (show Kd.M (Kd.int .u8) _ _ _ ((a0 / 256) % 256) [.int .u8 ((a0 / 256) % 256)] from rfl) (Reps.one (show Kd.M (Kd.int .u8) _ _ _ ((a0 / 65536) % 256) [.int .u8 ((a0 / 65536) % 256)] from rfl) (Reps.one (show Kd.M (Kd.int .u8) _ _ _ ((a0 / 16777216) % 256) [.int .u8 ((a0 / 16777216) % 256)] from rfl) (Reps.none _ _)))))); intro v105 w2 ho3 hb hg_ hnew_; clear hg_ hnew_; (first | rw [← Ny104.out] at ho3 | (simp only [Int.reduceToNat] at ho3; rw [← Ny104.out] at ho3)); have n0_ := Aside0.mk (Kd.R_lower ho3 (below_size (by repeat (first | (with_reducible first | exact HB.out | apply below_alloc | apply pw_below_drewN | apply below_drew1) | exact HB.out)))); have n1_ := Aside0.mk (below_step (by repeat (first | (with_reducible first | exact HB.out | apply below_alloc | apply pw_below_drewN | apply below_drew1) | exact HB.out)) hb); clear HB; have HO106 := n0_; have HB := n1_; clear n0_ n1_; clear hb ho3; have hcv4 := own_string (P := Tryd.prog) Tryd.underlying48 Tryd.underlying5 Tryd.underlying9 (Kd.own_of_R HO106.out)))
 go_ret
 exact ⟨by first | rfl | (simp [errW_none, errW_some] <;> rfl) | (simp [*, errW_none, errW_some] <;> rfl), by repeat (first | (with_reducible first | exact HB.out | apply below_alloc | apply pw_below_drewN | apply below_drew1) | exact HB.out)⟩

def sum_half.l0 : Nat → Int → Int → Option (Int)
 | 0, _, _ => none
 | k + 1, x0, x3 => if x3 < 4 then (sum_half.l0 k (Go.bits .xor .u32 (x0 / 2) (Go.bits .and .u32 2197175160 ((-(Go.bits .and .u32 x0 1)) % 4294967296))) (wrap64 (x3 + 1))) else (some x0)
def sum_half.f (k : Nat) (a0 : Int) : Option (Int) := sum_half.l0 k a0 0
theorem sum_half.mono_l : ∀ k, (∀ y0 y1, LeO (sum_half.l0 k y0 y1) (sum_half.l0 (k + 1) y0 y1))
 | 0 => fun _ _ r h => by simp [sum_half.l0] at h
 | k + 1 => by
  have ih0 := sum_half.mono_l k
  ·intro y0 y1
   unfold sum_half.l0
   repeat' first
   | (with_reducible exact ih0 _ _)
   | (with_reducible exact LeO.refl _)
   | (with_reducible exact LeO.none _)
   | (with_reducible refine LeO.ite ?_ ?_)
   | (with_reducible refine LeO.bind ?_ (fun _ => ?_))
   | exact ih0 _ _
   | exact LeO.none _
   | refine LeO.ite ?_ ?_
   | refine LeO.bind ?_ (fun _ => ?_)
theorem sum_half.mono : ∀ a0 k, LeO (sum_half.f k a0) (sum_half.f (k + 1) a0) := by
 intro a0 k
 have ih0 := sum_half.mono_l k
 unfold sum_half.f
 repeat' first
   | (with_reducible exact ih0 _ _)
   | (with_reducible exact LeO.refl _)
   | (with_reducible exact LeO.none _)
   | (with_reducible refine LeO.ite ?_ ?_)
   | (with_reducible refine LeO.bind ?_ (fun _ => ?_))
   | exact ih0 _ _
   | exact LeO.none _
   | refine LeO.ite ?_ ?_
   | refine LeO.bind ?_ (fun _ => ?_)
set_option maxHeartbeats 8000000 in
set_option maxRecDepth 100000 in
theorem sum_half.calls (k : Nat) (a0 : Int) (r : Int) (w : World) (h : sum_half.f k a0 = some r) :
  Calls Tryd.prog 88 #[.int .u32 a0] w fun e w' => e = .returned (.int .u32 r) ∧ Drawn0 w w' := by
 have H : (sum_half.l0 k a0 0) = some r := h
 clear h
 have H' := Aside0.mk H
 clear H
 go_enter Tryd.func88, Tryd.ntmps88
 go_wp2
 go_loopg [0, 3] k (fun kq v0 v3 w' => ∃ (x0_1 : Int) (x3_1 : Int), v0 = .int .u32 x0_1 ∧ v3 = .int .i64 x3_1 ∧ Aside0 (sum_half.l0 kq x0_1 x3_1 = some r) ∧ Aside0 (kq ≤ k) ∧ Drawn0 w w')
 case atStart => exact ⟨(a0), (0), (by first | rfl | (simp; done) | (simp [*]; done)), (by first | rfl | (simp; done) | (simp [*]; done)), H', ⟨Nat.le_refl _⟩, by repeat (first | exact Drawn0.refl _ | apply Drawn0.step)⟩
 case round =>
  clear H'
  obtain ⟨x0_1, x3_1, rfl, rfl, HA, HK1, ⟨m1, rfl⟩⟩ := hrel
  cases gk with
  | zero => exact absurd HA.out (by simp [sum_half.l0])
  | succ k1 =>
   have H := HA.out
   clear HA
   simp only [sum_half.l0] at H
   by_cases c2 : x3_1 < 4
   ·rw [if_pos c2] at H
    have c2b0 : decide (x3_1 < 4) = true := decide_eq_true c2
    clear c2
    have H' := Aside0.mk H
    clear H
    go_wp2
    go_roundg k1
    case measure => have := HK1.out; omega
    case rel => exact ⟨(Go.bits .xor .u32 (x0_1 / 2) (Go.bits .and .u32 2197175160 ((-(Go.bits .and .u32 x0_1 1)) % 4294967296))), (wrap64 (x3_1 + 1)), (by first | rfl | (simp; done) | (simp [*]; done)), (by first | rfl | (simp; done) | (simp [*]; done)), H', ⟨by have := HK1.out; omega⟩, by repeat (first | exact Drawn0.refl _ | apply Drawn0.step)⟩
   ·rw [if_neg c2] at H
    have c2b0 : decide (x3_1 < 4) = false := decide_eq_false c2
    clear c2
    obtain rfl := Option.some.inj H
    go_wp2
    go_ret
    exact ⟨by first | rfl | (simp; done) | (simp [*]; done), by repeat (first | exact Drawn0.refl _ | apply Drawn0.step)⟩
theorem sum_half_tab : ∀ i : Fin 16, sum_half.f 6 (i.val : Int) = some (sum_tb i.val) := by decide +kernel
def sum_arr (k : Nat) : Array Value := ((List.range 16).map fun i => Value.int .u32 (if i < k then sum_tb i else 0)).toArray
theorem sum_arr_set (k : Nat) (hk : k < 16) : (sum_arr k).setIfInBounds k (.int .u32 (sum_tb k)) = sum_arr (k + 1) := by
 apply Array.ext
 ·simp [sum_arr]
 ·intro i h1 h2
  rw [Array.getElem_setIfInBounds (by simpa using h1)]
  by_cases hi : k = i
  ·subst hi; simp [sum_arr]
  ·rw [if_neg hi]
   have h3 : (i < k + 1) ↔ (i < k) := by omega
   simp [sum_arr, h3]
theorem sum_arr_cell (k i : Nat) (hi : i < 16) : (sum_arr k)[i]? = some (.int .u32 (if i < k then sum_tb i else 0)) := by simp [sum_arr, hi]
theorem sum_arr16 : sum_arr 16 = #[.int .u32 0, .int .u32 274646895, .int .u32 549293790, .int .u32 820201905, .int .u32 1098587580, .int .u32 1361435347, .int .u32 1640403810, .int .u32 1905808397, .int .u32 2197175160, .int .u32 2460548119, .int .u32 2722870694, .int .u32 2987750089, .int .u32 3280807620, .int .u32 3553878443, .int .u32 3811616794, .int .u32 4084100981] := by rfl
structure sum_Arr (B k : Nat) (w W : World) : Prop where
 below : Below w.heap.size w W
 res : W.heap[w.heap.size]? = some (.cells (sum_arr 0) 141 (0, 0))
 blk : W.heap[w.heap.size + 1]? = some (.cells (sum_arr k) 141 (0, 0))
theorem sum_Arr.step {B k : Nat} {w W : World} (h : sum_Arr B k w W) (hk : k < 16) : sum_Arr B (k + 1) w (W.setCell ⟨w.heap.size + 1, k, none⟩ (.int .u32 (sum_tb k))) :=
 ⟨h.below.setCell (p := ⟨w.heap.size + 1, k, none⟩) (Nat.le_succ _) _, blk_far h.res (by simp) _, by rw [blk_set h.blk k _, sum_arr_set k hk]⟩
theorem sum_Arr.drawn {B k : Nat} {w W W' : World} (h : sum_Arr B k w W) (hd : Drawn0 W W') : sum_Arr B k w W' := by
 obtain ⟨n, rfl⟩ := hd
 exact ⟨pw_below_drewN h.below n, h.res, h.blk⟩
theorem below_setRow_ {B g : Nat} {w0 w : World} (hb : Below B w0 w) (hBg : B ≤ g) (cs : Array Value) : Below B w0 (w.setRow g cs) :=
 ⟨hb.os, hb.tape, hb.output, by simpa using hb.size, fun k hk => (setRow_other w g k cs (by omega)).trans (hb.block k hk)⟩
section
variable {P : Program} {ops : Array Oper} {rest : List Oper} {op : Oper} {a : Act} {w : World} {Q : Exit → Act → World → Prop}
theorem sum_store_row (hgd : op.guard = none) (ty : TypeId) (x y : Operand) (ho : op.op = .store ty x y) (g : Nat) (cur cells : Array Value) (t : TypeId)
  (hx : a.eval x = .pointer (some ⟨g, 0, none⟩)) (hy : a.eval y = .agg cells) (hg : w.heap[g]? = some (.cells cur t (0, 0))) (hsz : cur.size = cells.size)
  (hi : (P.info? ty).map (·.size) = some cells.size) (h1 : ∀ v ∈ cells.toList, v.oneCell' = true)
  (h : wpList P ops Q rest (a.put op.dst undef) (w.setRow g cells)) : wpList P ops Q (op :: rest) a w := by
 refine wpList_plain hgd fun _ hK => ?_
 have hs := run_storeCells_at (P := P) g 0 t cells.toList 0 cur w hg (by simp; omega) h1
 have hcur : (List.take (0 + 0) cur.toList ++ cells.toList ++ List.drop (0 + 0 + cells.toList.length) cur.toList).toArray = cells := by
  rw [List.drop_eq_nil_of_le (by simp; omega)]; simp
 rw [hcur] at hs
 cases hq : P.info? ty with
 | none => simp [hq] at hi
 | some i =>
  have hs2 : cells.size = i.size := by simp [hq] at hi; omega
  unfold Oper.wp execOp
  simp only [ho, hx, hy, Instr.storeAt, Instr.sureAddr, Sem.run_bind, Sem.run_pure, Result.andThen_ok]
  simp [storeVar, sizeOf, typeInfo, hq, Value.cells, hs2, hs]
  exact hK _ _ h
end
set_option maxHeartbeats 400000 in
set_option maxRecDepth 100000 in
theorem sum_halves (w : World) :
  Calls Tryd.prog 83 #[] w fun e w' => e = .returned (.agg #[.int .u32 0, .int .u32 274646895, .int .u32 549293790, .int .u32 820201905, .int .u32 1098587580, .int .u32 1361435347, .int .u32 1640403810, .int .u32 1905808397, .int .u32 2197175160, .int .u32 2460548119, .int .u32 2722870694, .int .u32 2987750089, .int .u32 3280807620, .int .u32 3553878443, .int .u32 3811616794, .int .u32 4084100981]) ∧ Below w.heap.size w w' := by
 go_enter Tryd.func83, Tryd.ntmps83
 go_wp2
 have HA : Hid (sum_Arr 0 0 w ((w.alloc (.cells (sum_arr 0) 141)).alloc (.cells (sum_arr 0) 141))) := Lib.hid ⟨((Below.refl _ _).alloc (Nat.le_refl _) _).alloc (by simp) _, heap_alloc2_old w _ _, heap_alloc2_new w _ _⟩
 go_loopw [3] (fun v3 wr => ∃ k : Nat, k ≤ 16 ∧ v3 = .int .i64 k ∧ Hid (sum_Arr 0 k w wr)) (fun v3 _ => 16 - (intOf v3).toNat)
 case atStart => exact ⟨0, by omega, rfl, HA⟩
 case round =>
  clear HA
  obtain ⟨k, hk, rfl, HA⟩ := hrel
  by_cases hlt : k < 16
  ·have hkl : ((k : Int) < 16) = True := by simp; omega
   have hkw : IntKind.u32.wrap (k : Int) = (k : Int) := by rw [IntKind.wrap_u32]; omega
   have hfr := blk_frozen HA.out.blk k
   have hcl := (blk_cell HA.out.blk k).trans (sum_arr_cell k k hlt)
   go_wp2_with (go_at_call 88; refine (sum_half.calls 6 (k : Int) (sum_tb k) _ (sum_half_tab ⟨k, hlt⟩)).mono ?_; rintro e w1 ⟨rfl, hd⟩; have HA1 := Lib.hid (HA.out.drawn hd); clear HA hd hfr hcl; have hfr := blk_frozen HA1.out.blk k; have hcl := (blk_cell HA1.out.blk k).trans (sum_arr_cell k k hlt))
   go_roundw
   case rel => exact ⟨k + 1, by omega, by go_num, Lib.hid (HA1.out.step hlt)⟩
   case measure => simp [intOf]; omega
  ·obtain rfl : k = 16 := by omega
   go_wp2_with (first
    | ((with_reducible refine gate_dst (N := 12) rfl ?_); refine wpList_load_row rfl 141 (.tmp 1) rfl (w.heap.size + 1) rfl 141 (sum_arr 16) (0, 0) _ HA.out.blk Tryd.underlying141 rfl (by kernel_rfl) ?_)
    | (refine sum_store_row rfl 141 (.tmp 0) (.tmp 12) rfl w.heap.size (sum_arr 0) (sum_arr 16) 141 rfl rfl HA.out.res rfl (by kernel_rfl) (by decide) ?_))
   refine bodyPost_ret (results_cell_row rfl _ _ w.heap.size 141 (sum_arr 16) (0, 0) _ rfl (setRow_heap wr _ _ _ _ _ HA.out.res) Tryd.underlying141 rfl (by kernel_rfl)) rfl ?_
   exact ⟨by rw [sum_arr16], below_setRow_ HA.out.below (Nat.le_refl _) _⟩
def sum_reg (n : Int) : Array Value := #[.int .u32 n, .int .u32 0, .int .u32 274646895, .int .u32 549293790, .int .u32 820201905, .int .u32 1098587580, .int .u32 1361435347, .int .u32 1640403810, .int .u32 1905808397, .int .u32 2197175160, .int .u32 2460548119, .int .u32 2722870694, .int .u32 2987750089, .int .u32 3280807620, .int .u32 3553878443, .int .u32 3811616794, .int .u32 4084100981]
def sum_half4 (a : Int) : Int := Go.bits .xor .u32 (a / 16) (sum_tb (Go.bits .and .u32 a 15))
def sum_step (n c : Int) : Int := sum_half4 (sum_half4 (Go.bits .xor .u32 n c))
def sum_to (s : ByteArray) (n : Int) : Nat → Int
 | 0 => n
 | k + 1 => sum_step (sum_to s n k) (bt s k)
theorem sum_reg_cell (n : Int) (i : Nat) (hi : i < 16) : (sum_reg n)[1 + i]? = some (.int .u32 (sum_tb i)) := by
 have : ∀ i : Fin 16, (sum_reg n)[1 + i.val]? = some (.int .u32 (sum_tb i.val)) := by
  intro i
  obtain ⟨i, h⟩ := i
  simp only
  rcases i with _ | _ | _ | _ | _ | _ | _ | _ | _ | _ | _ | _ | _ | _ | _ | _ | i
  all_goals first | rfl | omega
 exact this ⟨i, hi⟩
theorem sum_reg_set (n m : Int) : (sum_reg n).setIfInBounds 0 (.int .u32 m) = sum_reg m := rfl
def sum_Reg (g : Nat) (n : Int) (W : World) : Prop := W.heap[g]? = some (.cells (sum_reg n) 144 (0, 0))
theorem sum_Reg.cell0 {g : Nat} {n : Int} {W : World} (h : sum_Reg g n W) : W.cell? ⟨g, 0, none⟩ = some (.int .u32 n) := (blk_cell h 0).trans rfl
theorem sum_Reg.cellT {g : Nat} {n : Int} {W : World} (h : sum_Reg g n W) (i : Nat) (hi : i < 16) : W.cell? ⟨g, 1 + i, none⟩ = some (.int .u32 (sum_tb i)) := (blk_cell h (1 + i)).trans (sum_reg_cell n i hi)
theorem sum_Reg.frozen {g : Nat} {n : Int} {W : World} (h : sum_Reg g n W) (i : Nat) : W.frozen? ⟨g, i, none⟩ = false := blk_frozen h i
theorem sum_Reg.set {g : Nat} {n : Int} {W : World} (h : sum_Reg g n W) (m : Int) : sum_Reg g m (W.setCell ⟨g, 0, none⟩ (.int .u32 m)) := by
 unfold sum_Reg at h ⊢
 rw [blk_set h 0 _, sum_reg_set]
theorem sum_grown_set {w W : World} {g : Nat} (h : w.grownBy W (some g)) (v : Value) : w.grownBy (W.setCell ⟨g, 0, none⟩ v) (some g) := by
 refine ⟨h.os, h.tape, h.output, by simpa [World.setCell] using h.size, fun i hi hne => ?_⟩
 rw [Below.heap_setCell W ⟨g, 0, none⟩ v i (fun e => hne (by rw [e]))]
 exact h.block i hi hne
theorem sum_grown_drew {w W : World} {g : Nat} (h : w.grownBy W (some g)) : w.grownBy W.drew (some g) := ⟨h.os, h.tape, h.output, h.size, h.block⟩
theorem sum_Reg.drew {g : Nat} {n : Int} {W : World} (h : sum_Reg g n W) : sum_Reg g n W.drew := h
theorem sum_and15 (a : Int) : ∃ j : Nat, j < 16 ∧ bits .and .u32 a 15 = (j : Int) := by
 refine ⟨(BitVec.ofInt 32 a &&& BitVec.ofInt 32 15).toNat, ?_, ?_⟩
 ·rw [BitVec.toNat_and]
  have : (BitVec.ofInt 32 15).toNat = 15 := by decide
  rw [this]
  exact Nat.lt_of_le_of_lt Nat.and_le_right (by decide)
 ·have h : (BitVec.ofInt 32 a &&& BitVec.ofInt 32 15).toNat < 4294967296 := (BitVec.ofInt 32 a &&& BitVec.ofInt 32 15).isLt
  show IntKind.u32.wrap (((BitVec.ofInt 32 a &&& BitVec.ofInt 32 15).toNat : Nat) : Int) = _
  rw [IntKind.wrap_u32]
  omega
set_option maxHeartbeats 400000 in
set_option maxRecDepth 100000 in
theorem sum_add (g : Nat) (n : Int) (s : ByteArray) (w : World) (hI : sum_Reg g n w) (hs : s.size ≤ 9223372036854775806) :
  Calls Tryd.prog 84 #[.pointer (some ⟨g, 0, none⟩), .string s] w fun e w' => e = .returned (.tuple #[]) ∧ sum_Reg g (sum_to s n s.size) w' ∧ w.grownBy w' (some g) := by
 have HI := Lib.hid hI; clear hI
 have HG := Lib.hid (World.grownBy.refl w (some g))
 go_enter Tryd.func84, Tryd.ntmps84
 go_wp2
 go_loopw [7] (fun v7 wr => ∃ k : Nat, k ≤ s.size ∧ v7 = .int .i64 k ∧ Hid (sum_Reg g (sum_to s n k) wr) ∧ Hid (w.grownBy wr (some g))) (fun v7 _ => s.size - (intOf v7).toNat)
 case atStart => exact ⟨0, by omega, rfl, HI, HG⟩
 case round =>
  clear HI HG
  obtain ⟨k, hk, rfl, HI, HG⟩ := hrel
  by_cases hlt : k < s.size
  ·have hc := HI.out.cell0
   have hf := HI.out.frozen 0
   have hx : ∀ h : k < s.size, ((s[k]'h).toNat : Int) = bt s (k : Int) := fun h => by have := bt_at s (k : Int); simp only [Int.toNat_natCast] at this; exact this h
   have hx2 : (k : Int) < (s.size : Int) := by omega
   have hb := bt_range s (k : Int)
   have hbw : IntKind.u32.wrap (bt s (k : Int)) = bt s (k : Int) := by rw [IntKind.wrap_u32]; omega
   obtain ⟨a, ha⟩ : ∃ a, bits .xor .u32 (sum_to s n k) (bt s (k : Int)) = a := ⟨_, rfl⟩
   go_wp2
   go_still_tail 11, (by kernel_rfl)
   change wpList _ _ _ _ _ wr.drew
   have HI1 := Lib.hid HI.out.drew
   have HG1 := Lib.hid (sum_grown_drew HG.out)
   clear HI HG hc hf
   generalize wr.drew = W1 at HI1 HG1 ⊢
   have hf := HI1.out.frozen 0
   have hc := HI1.out.cell0
   go_wp2
   have HI2 := Lib.hid (HI1.out.set a)
   have HG2 := Lib.hid (sum_grown_set HG1.out (.int .u32 a))
   clear HI1 HG1 hf hc
   generalize W1.setCell ⟨g, 0, none⟩ (.int .u32 a) = W2 at HI2 HG2 ⊢
   have hc := HI2.out.cell0
   have hf := HI2.out.frozen 0
   obtain ⟨j1, hj161, hj1⟩ := sum_and15 a
   have hct := HI2.out.cellT j1 hj161
   have hjl : ((j1 : Int) < 16) = True := by simp; omega
   obtain ⟨b, hb⟩ : ∃ z_, bits .xor .u32 (a / 16) (sum_tb j1) = z_ := ⟨_, rfl⟩
   have HB1 := Lib.hid (show sum_half4 a = b by unfold sum_half4; rw [hj1, hb])
   go_still_tail 19, (by kernel_rfl)
   change wpList _ _ _ _ _ W2.drew
   have HI3 := Lib.hid HI2.out.drew
   have HG3 := Lib.hid (sum_grown_drew HG2.out)
   clear HI2 HG2 hc hf hct hjl
   generalize W2.drew = W3 at HI3 HG3 ⊢
   have hf := HI3.out.frozen 0
   have hc := HI3.out.cell0
   go_wp2
   have HI4 := Lib.hid (HI3.out.set b)
   have HG4 := Lib.hid (sum_grown_set HG3.out (.int .u32 b))
   clear HI3 HG3 hf hc
   generalize W3.setCell ⟨g, 0, none⟩ (.int .u32 b) = W4 at HI4 HG4 ⊢
   have hc := HI4.out.cell0
   have hf := HI4.out.frozen 0
   obtain ⟨j2, hj162, hj2⟩ := sum_and15 b
   have hct := HI4.out.cellT j2 hj162
   have hjl : ((j2 : Int) < 16) = True := by simp; omega
   obtain ⟨c, hc⟩ : ∃ z_, bits .xor .u32 (b / 16) (sum_tb j2) = z_ := ⟨_, rfl⟩
   have HB2 := Lib.hid (show sum_half4 b = c by unfold sum_half4; rw [hj2, hc])
   go_still_tail 19, (by kernel_rfl)
   change wpList _ _ _ _ _ W4.drew
   have HI3 := Lib.hid HI4.out.drew
   have HG3 := Lib.hid (sum_grown_drew HG4.out)
   clear HI4 HG4 hc hf hct hjl
   generalize W4.drew = W3 at HI3 HG3 ⊢
   have hf := HI3.out.frozen 0
   have hc := HI3.out.cell0
   go_wp2
   have HI5 := Lib.hid (HI3.out.set c)
   have HG5 := Lib.hid (sum_grown_set HG3.out (.int .u32 c))
   clear HI3 HG3 hf hc
   generalize W3.setCell ⟨g, 0, none⟩ (.int .u32 c) = W5 at HI5 HG5 ⊢
   have HT := Lib.hid (show sum_to s n (k + 1) = c by
    show sum_half4 (sum_half4 (Go.bits .xor .u32 (sum_to s n k) (bt s k))) = c
    rw [ha, HB1.out, HB2.out])
   go_roundw
   case rel => exact ⟨k + 1, by omega, by go_num, Lib.hid (by rw [HT.out]; exact HI5.out), HG5⟩
   case measure => simp [intOf]; omega
  ·obtain rfl : k = s.size := by omega
   go_wp2
   first | go_end0 | ((try simp only [Exit.inBlock, Exit.then]); refine bodyPost_ret (results_none rfl _ _ _) rfl ?_)
   exact ⟨rfl, HI.out, HG.out⟩

def sum_On.f (a0 : Int) (a1 : ByteArray) : Option Int := if a1.size ≤ 9223372036854775806 then some (Go.bits .xor .u32 IntKind.u32.max (sum_to a1 (Go.bits .xor .u32 IntKind.u32.max a0) a1.size)) else none
set_option maxHeartbeats 400000 in
set_option maxRecDepth 100000 in
theorem sum_On.calls (a0 : Int) (a1 : ByteArray) (r : Int) (w : World) (h : sum_On.f a0 a1 = some r) :
  Calls Tryd.prog 78 #[.int .u32 a0, .string a1] w fun e w' => e = .returned (.int .u32 r) ∧ Below w.heap.size w w' := by
 unfold sum_On.f at h
 split at h
 rotate_left
 ·cases h
 rename_i hs
 obtain rfl := Option.some.inj h
 clear h
 have hsg : IntKind.u32.signed = false := rfl
 obtain ⟨n, hn⟩ : ∃ n, Go.bits .xor .u32 IntKind.u32.max a0 = n := ⟨_, rfl⟩
 rw [hn]
 obtain ⟨m, hm⟩ : ∃ m, sum_to a1 n a1.size = m := ⟨_, rfl⟩
 rw [hm]
 have HM := Lib.hid hm; clear hm
 go_enter Tryd.func78, Tryd.ntmps78
 go_wp2_with (first
  | (go_at_call 83; refine (sum_halves _).mono ?_; rintro e w1 ⟨rfl, hb1⟩; have HB1 := Lib.hid hb1; clear hb1)
  | (go_at_call 84; refine (sum_add w1.heap.size n a1 _ (heap_alloc_new w1 _) hs).mono ?_; rintro e w2 ⟨rfl, hr, hg⟩; rw [HM.out] at hr; have HR := Lib.hid hr; have HG := Lib.hid hg; have hc := hr.cell0; clear hr hg))
 go_ret
 refine ⟨rfl, ?_⟩
 exact (HB1.out.alloc HB1.out.size _).grown HG.out (by have := HB1.out.size; simp; omega) (fun k hk => by injection hk with hk; rw [← hk]; exact HB1.out.size)


def sum_Of.f (a0 : ByteArray) : Option (Int) := (sum_On.f 0 a0).bind fun t107 => (some t107)
set_option maxHeartbeats 8000000 in
set_option maxRecDepth 100000 in
theorem sum_Of.calls (a0 : ByteArray) (r : Int) (w : World) (h : sum_Of.f a0 = some r) :
  Calls Tryd.prog 67 #[.string a0] w fun e w' => e = .returned (.int .u32 r) ∧ Below w.heap.size w w' := by
 have HB := Aside0.mk (Below.refl w.heap.size w)
 have H : ((sum_On.f 0 a0).bind fun t107 => (some t107)) = some r := h
 clear h
 replace H := Option.bind_eq_some_iff.mp H
 obtain ⟨t107, A20, H⟩ := H
 replace H : (some t107) = some r := H
 have A2 := Aside0.mk A20
 clear A20
 obtain rfl := Option.some.inj H
 go_enter Tryd.func67, Tryd.ntmps67
 go_wp2_with (first | ((with_reducible refine gate_callee (f := 78) rfl ?_); refine goesL_ (some 4) rfl rfl Tryd.func78 (by kernel_rfl) rfl #[.int .u32 0, .string a0] rfl (by (try simp only [List.map_toArray, List.map_cons, List.map_nil]); first | done | rfl | (simp only [List.length_drop, List.length_take]; rfl)) ?_; (with_reducible refine (sum_On.calls 0 a0 t107 _ A2.out).mono ?_); rintro e w3 ⟨rfl, hb⟩; refine ⟨_, rfl, ?_⟩; have n0_ := Aside0.mk (below_step (by repeat (first | (with_reducible first | exact HB.out | apply below_alloc | apply pw_below_drewN | apply below_drew1) | exact HB.out)) hb); clear HB; have HB := n0_; clear n0_; (try clear hb); (try clear hb2); (try clear hk); (try clear hi)))
 go_ret
 exact ⟨by first | rfl | (simp [errW_none, errW_some] <;> rfl) | (simp [*, errW_none, errW_some] <;> rfl), by repeat (first | (with_reducible first | exact HB.out | apply below_alloc | apply pw_below_drewN | apply below_drew1) | exact HB.out)⟩

def sum_Frame.f (a0 : ByteArray) : Option (ByteArray × Int) := if (a0.size : Int) > 32768 then (some ((⟨#[]⟩ : ByteArray), 12)) else ((wire_Num.f (a0.size : Int)).bind fun t108 => ((sum_Of.f a0).bind fun t109 => ((sum_bytes.f t109).bind fun t110 => (if t108.size + t110.size ≤ 9223372036854775807 then (if (t108 ++ t110).size + a0.size ≤ 9223372036854775807 then (some ((t108 ++ t110) ++ a0, 0)) else (none)) else (none)))))
set_option maxHeartbeats 8000000 in
set_option maxRecDepth 100000 in
theorem sum_Frame.calls (a0 : ByteArray) (r1 : ByteArray) (r2 : Int) (w : World) (h : sum_Frame.f a0 = some (r1, r2)) :
  Calls Tryd.prog 54 #[.string a0] w fun e w' => e = .returned (.tuple #[.string r1, .int .i64 r2]) ∧ Below w.heap.size w w' := by
 have HB := Aside0.mk (Below.refl w.heap.size w)
 have H : (if (a0.size : Int) > 32768 then (some ((⟨#[]⟩ : ByteArray), 12)) else ((wire_Num.f (a0.size : Int)).bind fun t108 => ((sum_Of.f a0).bind fun t109 => ((sum_bytes.f t109).bind fun t110 => (if t108.size + t110.size ≤ 9223372036854775807 then (if (t108 ++ t110).size + a0.size ≤ 9223372036854775807 then (some ((t108 ++ t110) ++ a0, 0)) else (none)) else (none)))))) = some (r1, r2) := h
 clear h
 by_cases c2 : (a0.size : Int) > 32768
 ·rw [if_pos c2] at H
  have c2b0 : decide (32768 < (a0.size : Int)) = true := decide_eq_true c2
  have c2b1 : decide (32768 < a0.size) = true := decide_eq_true (by omega)
  clear c2
  simp only [Option.some.injEq, Prod.mk.injEq] at H
  obtain ⟨rfl, rfl⟩ := H
  go_enter Tryd.func54, Tryd.ntmps54
  go_wp2
  go_ret2
  exact ⟨by first | rfl | (simp [errW_none, errW_some] <;> rfl) | (simp [*, errW_none, errW_some] <;> rfl), by repeat (first | (with_reducible first | exact HB.out | apply below_alloc | apply pw_below_drewN | apply below_drew1) | exact HB.out)⟩
 ·rw [if_neg c2] at H
  have c2b0 : decide (32768 < (a0.size : Int)) = false := decide_eq_false c2
  have c2b1 : decide (32768 < a0.size) = false := decide_eq_false (by omega)
  clear c2
  replace H := Option.bind_eq_some_iff.mp H
  obtain ⟨t108, A30, H⟩ := H
  replace H : ((sum_Of.f a0).bind fun t109 => ((sum_bytes.f t109).bind fun t110 => (if t108.size + t110.size ≤ 9223372036854775807 then (if (t108 ++ t110).size + a0.size ≤ 9223372036854775807 then (some ((t108 ++ t110) ++ a0, 0)) else (none)) else (none)))) = some (r1, r2) := H
  have A3 := Aside0.mk A30
  clear A30
  replace H := Option.bind_eq_some_iff.mp H
  obtain ⟨t109, A40, H⟩ := H
  replace H : ((sum_bytes.f t109).bind fun t110 => (if t108.size + t110.size ≤ 9223372036854775807 then (if (t108 ++ t110).size + a0.size ≤ 9223372036854775807 then (some ((t108 ++ t110) ++ a0, 0)) else (none)) else (none))) = some (r1, r2) := H
  have A4 := Aside0.mk A40
  clear A40
  replace H := Option.bind_eq_some_iff.mp H
  obtain ⟨t110, A50, H⟩ := H
  replace H : (if t108.size + t110.size ≤ 9223372036854775807 then (if (t108 ++ t110).size + a0.size ≤ 9223372036854775807 then (some ((t108 ++ t110) ++ a0, 0)) else (none)) else (none)) = some (r1, r2) := H
  have A5 := Aside0.mk A50
  clear A50
  by_cases c6 : t108.size + t110.size ≤ 9223372036854775807
  ·rw [if_pos c6] at H
   have c6b0 := eq_true c6
   have c6b1 : decide (t108.size + t110.size ≤ 9223372036854775807) = true := decide_eq_true c6
   try have c6b2 : (9223372036854775807 < t108.size + t110.size) = False := eq_false (Nat.not_lt.2 c6)
   by_cases c7 : (t108 ++ t110).size + a0.size ≤ 9223372036854775807
   ·rw [if_pos c7] at H
    have c7b0 := eq_true c7
    have c7b1 : decide ((t108 ++ t110).size + a0.size ≤ 9223372036854775807) = true := decide_eq_true c7
    try have c7b2 : (9223372036854775807 < (t108 ++ t110).size + a0.size) = False := eq_false (Nat.not_lt.2 c7)
    simp only [Option.some.injEq, Prod.mk.injEq] at H
    obtain ⟨rfl, rfl⟩ := H
    go_enter Tryd.func54, Tryd.ntmps54
    go_wp2_with (first | ((with_reducible refine gate_callee (f := 32) rfl ?_); refine goesL_ (some 9) rfl rfl Tryd.func32 (by kernel_rfl) rfl #[.int .i64 (a0.size : Int)] rfl (by (try simp only [List.map_toArray, List.map_cons, List.map_nil]); first | done | rfl | (simp only [List.length_drop, List.length_take]; rfl)) ?_; (with_reducible refine (wire_Num.calls (a0.size : Int) t108 _ A3.out).mono ?_); rintro e w8 ⟨rfl, hb⟩; refine ⟨_, rfl, ?_⟩; have n0_ := Aside0.mk (below_step (by repeat (first | (with_reducible first | exact HB.out | apply below_alloc | apply pw_below_drewN | apply below_drew1) | exact HB.out)) hb); clear HB; have HB := n0_; clear n0_; (try clear hb); (try clear hb2); (try clear hk); (try clear hi)) | ((with_reducible refine gate_callee (f := 67) rfl ?_); refine goesL_ (some 11) rfl rfl Tryd.func67 (by kernel_rfl) rfl #[.string a0] rfl (by (try simp only [List.map_toArray, List.map_cons, List.map_nil]); first | done | rfl | (simp only [List.length_drop, List.length_take]; rfl)) ?_; (with_reducible refine (sum_Of.calls a0 t109 _ A4.out).mono ?_); rintro e w9 ⟨rfl, hb⟩; refine ⟨_, rfl, ?_⟩; have n0_ := Aside0.mk (below_step (by repeat (first | (with_reducible first | exact HB.out | apply below_alloc | apply pw_below_drewN | apply below_drew1) | exact HB.out)) hb); clear HB; have HB := n0_; clear n0_; (try clear hb); (try clear hb2); (try clear hk); (try clear hi)) | ((with_reducible refine gate_callee (f := 66) rfl ?_); refine goesL_ (some 12) rfl rfl Tryd.func66 (by kernel_rfl) rfl #[.int .u32 t109] rfl (by (try simp only [List.map_toArray, List.map_cons, List.map_nil]); first | done | rfl | (simp only [List.length_drop, List.length_take]; rfl)) ?_; (with_reducible refine (sum_bytes.calls t109 t110 _ A5.out).mono ?_); rintro e w10 ⟨rfl, hb⟩; refine ⟨_, rfl, ?_⟩; have n0_ := Aside0.mk (below_step (by repeat (first | (with_reducible first | exact HB.out | apply below_alloc | apply pw_below_drewN | apply below_drew1) | exact HB.out)) hb); clear HB; have HB := n0_; clear n0_; (try clear hb); (try clear hb2); (try clear hk); (try clear hi)))
    go_ret2
    exact ⟨by first | rfl | (simp [errW_none, errW_some] <;> rfl) | (simp [*, errW_none, errW_some] <;> rfl), by repeat (first | (with_reducible first | exact HB.out | apply below_alloc | apply pw_below_drewN | apply below_drew1) | exact HB.out)⟩
   ·rw [if_neg c7] at H
    exact absurd H (by simp)
  ·rw [if_neg c6] at H
   exact absurd H (by simp)

def wire_signed.f (a0 : Int) (a1 : Bool) : Option (Int × Bool) := if a1 = true then (if a0 > 0 then (some (wrap64 (IntKind.u64.wrap (-a0)), decide (a0 ≤ 9223372036854775808))) else (some (wrap64 (IntKind.u64.wrap (-a0)), false))) else (some (wrap64 (a0), decide (a0 < 9223372036854775808)))
set_option maxHeartbeats 8000000 in
set_option maxRecDepth 100000 in
theorem wire_signed.calls (a0 : Int) (a1 : Bool) (r1 : Int) (r2 : Bool) (w : World) (h : wire_signed.f a0 a1 = some (r1, r2)) :
  Calls Tryd.prog 52 #[.int .u64 a0, .bool a1] w fun e w' => e = .returned (.tuple #[.int .i64 r1, .bool r2]) ∧ Drawn0 w w' := by
 have H : (if a1 = true then (if a0 > 0 then (some (wrap64 (IntKind.u64.wrap (-a0)), decide (a0 ≤ 9223372036854775808))) else (some (wrap64 (IntKind.u64.wrap (-a0)), false))) else (some (wrap64 (a0), decide (a0 < 9223372036854775808)))) = some (r1, r2) := h
 clear h
 by_cases c3 : a1 = true
 ·subst c3
  have H1 : (if a0 > 0 then (some (wrap64 (IntKind.u64.wrap (-a0)), decide (a0 ≤ 9223372036854775808))) else (some (wrap64 (IntKind.u64.wrap (-a0)), false))) = some (r1, r2) := by rw [if_pos rfl] at H; exact H
  clear H
  have H := H1
  clear H1
  by_cases c4 : a0 > 0
  ·rw [if_pos c4] at H
   have c4b0 : decide (0 < a0) = true := decide_eq_true c4
   clear c4
   simp only [Option.some.injEq, Prod.mk.injEq] at H
   obtain ⟨rfl, rfl⟩ := H
   go_enter Tryd.func52, Tryd.ntmps52
   go_wp2
   go_ret2
   exact ⟨by first | rfl | (simp; done) | (simp [*]; done), by repeat (first | exact Drawn0.refl _ | apply Drawn0.step)⟩
  ·rw [if_neg c4] at H
   have c4b0 : decide (0 < a0) = false := decide_eq_false c4
   clear c4
   simp only [Option.some.injEq, Prod.mk.injEq] at H
   obtain ⟨rfl, rfl⟩ := H
   go_enter Tryd.func52, Tryd.ntmps52
   go_wp2
   go_ret2
   exact ⟨by first | rfl | (simp; done) | (simp [*]; done), by repeat (first | exact Drawn0.refl _ | apply Drawn0.step)⟩
 ·replace c3 := Bool.eq_false_iff.mpr c3
  subst c3
  have H1 : (some (wrap64 (a0), decide (a0 < 9223372036854775808))) = some (r1, r2) := by rw [if_neg (show ¬ (false = true) by decide)] at H; exact H
  clear H
  have H := H1
  clear H1
  simp only [Option.some.injEq, Prod.mk.injEq] at H
  obtain ⟨rfl, rfl⟩ := H
  go_enter Tryd.func52, Tryd.ntmps52
  go_wp2
  go_ret2
  exact ⟨by first | rfl | (simp; done) | (simp [*]; done), by repeat (first | exact Drawn0.refl _ | apply Drawn0.step)⟩

def wire_GetNum.m (s : ByteArray) : Nat → Int
 | 0 => 0
 | k + 1 => Go.bits .or .u64 (IntKind.u64.wrap (wire_GetNum.m s k * 256)) (bt s (k + 1))
def wire_GetNum.f (a0 : ByteArray) : Option (Int × ByteArray × Int) :=
 if a0.size = 0 then some (0, (⟨#[]⟩ : ByteArray), 5)
 else if 8 < Go.bits .andNot .u8 (bt a0 0) 128 then some (0, (⟨#[]⟩ : ByteArray), 7)
 else if (a0.size : Int) ≤ Go.bits .andNot .u8 (bt a0 0) 128 then some (0, (⟨#[]⟩ : ByteArray), 5)
 else if 0 < Go.bits .andNot .u8 (bt a0 0) 128 ∧ bt a0 1 = 0 then some (0, (⟨#[]⟩ : ByteArray), 7)
 else (wire_signed.f (wire_GetNum.m a0 (Go.bits .andNot .u8 (bt a0 0) 128).toNat) (decide (128 ≤ bt a0 0))).bind fun t =>
  if t.2 = true then some (t.1, a0.extract ((Go.bits .andNot .u8 (bt a0 0) 128).toNat + 1) a0.size, 0) else some (0, (⟨#[]⟩ : ByteArray), 7)
theorem wire_GetNum.empty (a0 : ByteArray) (h : a0.size = 0) : (a0.toList == ([] : List UInt8)) = true := by
 obtain rfl : a0 = (⟨#[]⟩ : ByteArray) := by
  cases a0 with
  | mk d => simp [ByteArray.size] at h; subst h; rfl
 simp
theorem wire_GetNum.full (a0 : ByteArray) (h : 0 < a0.size) : (a0.toList == ([] : List UInt8)) = false := by
 rw [beq_eq_false_iff_ne]; intro h1
 have h2 := decide_eq_emptyBytes (s := a0)
 rw [h1] at h2
 have h3 : a0 = ByteArray.empty := by simpa using h2
 rw [h3] at h
 exact absurd h (by decide)
theorem wire_GetNum.rng (a0 : ByteArray) : 0 ≤ Go.bits .andNot .u8 (bt a0 0) 128 := Go.bits_lo_u8 _ _ _
theorem wire_GetNum.at_ (a0 : ByteArray) (m k : Nat) (h0 : m < a0.size) (hk : k < m) : rd (bytesOf (a0.extract 1 (m + 1))) (k : Int) = bt a0 ((k : Int) + 1) := by
 have hsz : (a0.extract 1 (m + 1)).size = m := by rw [ByteArray.size_extract]; omega
 have e1 : ((k : Int) + 1).toNat = k + 1 := by omega
 have e2 : ((k : Int)).toNat = k := by omega
 rw [rd_bytesOf]; unfold bt; rw [dif_pos (by rw [hsz]; omega), dif_pos (by omega)]
 simp only [e1, e2]
 rw [ByteArray.getElem_extract]
 simp only [Nat.add_comm]
set_option maxHeartbeats 400000 in
set_option maxRecDepth 100000 in
theorem wire_GetNum.walk (a0 : ByteArray) (w : World) (n : Int) (b : Bool) (m : Nat) (hsg : wire_signed.f (wire_GetNum.m a0 m) (decide (128 ≤ bt a0 0)) = some (n, b)) (hb : Go.bits .andNot .u8 (bt a0 0) 128 = (m : Int)) (h0 : m < a0.size) (h8 : m ≤ 8) (hz : ¬ (0 < m ∧ bt a0 1 = 0)) :
  Calls Tryd.prog 31 #[.string a0] w fun e w' => e = .returned (if b then (.tuple #[.int .i64 n, .string (a0.extract (m + 1) a0.size), .int .i64 0]) else (.tuple #[.int .i64 0, .string (⟨#[]⟩ : ByteArray), .int .i64 7])) ∧ Below w.heap.size w w' := by
 have p4 : 0 < a0.size := by omega
 have n0 := wire_GetNum.full a0 p4
 have hx4 : ∀ h : 0 < a0.size, ((a0[0]'h).toNat : Int) = bt a0 0 := bt_at a0 0
 have hx5 : ∀ h : 1 < a0.size, ((a0[1]'h).toNat : Int) = bt a0 1 := bt_at a0 1
 have hsz : (a0.extract 1 (m + 1)).size = m := by rw [ByteArray.size_extract]; omega
 have hmn : min (m + 1) a0.size - 1 = m := by omega
 have kb := fun W => print_bytes (P := Tryd.prog) 9 48 5 Tryd.underlying9 Tryd.underlying48 Tryd.underlying5 (a0.extract 1 (m + 1)) W
 rw [hsz] at kb
 have hrd := bytes_reads w 5 (a0.extract 1 (m + 1)) (by omega)
 have hbl := bytes_below (Below.refl w.heap.size w) (Nat.le_refl _) 5 (a0.extract 1 (m + 1))
 rw [hsz] at hrd
 have HR := Lib.hid hrd; clear hrd
 have HL := Lib.hid hbl; clear hbl
 have hb1 : (decide ((a0.size : Int) ≤ (m : Int))) = false := by simp; omega
 have hb3 : ((m : Int) + 1 ≤ (a0.size : Int)) = True := by simp; omega
 have hb4 : (1 ≤ (m : Int) + 1) = True := by simp; omega
 have hb5 : ((m : Int) + 1).toNat = m + 1 := by omega
 have hb6 : wrap64 ((m : Int) + 1) = (m : Int) + 1 := by unfold wrap64; omega
 have HS := Lib.hid hsg; clear hsg
 have hat := wire_GetNum.at_ a0 m
 have HA := Lib.hid hat; clear hat
 have HZ : Hid (m = 0) ∨ 0 < m ∧ (bt a0 1 == 0) = false := by
  by_cases h : m = 0
  ·exact .inl (Lib.hid h)
  ·refine .inr ⟨by omega, ?_⟩
   rw [beq_eq_false_iff_ne]; intro h2; exact hz ⟨by omega, h2⟩
 clear hz
 obtain hm0 | ⟨h1, hb2⟩ := HZ
 all_goals cases b
 all_goals (first | (have hm1 : (0 < m) = False := by (have := hm0.out; simp; omega)) | have q5 : 1 < a0.size := by omega)
 all_goals
  go_enter Tryd.func31, Tryd.ntmps31
  go_wp2
  clear kb hmn
  generalize Lib.bytesWorld w 5 (a0.extract 1 (m + 1)) = W at HR HL ⊢
  go_loop [6, 39] (fun vm vi => ∃ k : Nat, k ≤ m ∧ vi = .int .i64 k ∧ vm = .int .u64 (wire_GetNum.m a0 k)) (fun _ vi => m - (intOf vi).toNat)
  case atStart => exact ⟨0, by omega, rfl, rfl⟩
  case round =>
   obtain ⟨k, hk, rfl, rfl⟩ := hrel
   by_cases hkm : k < m
   ·obtain ⟨ad, hA, hc⟩ := HR.out.at_ (k : Int) (by omega) (by omega)
    obtain rfl := Option.some.inj hA
    rw [HA.out k h0 hkm, add_plain, Int.toNat_natCast] at hc
    have hbt := bt_range a0 ((k : Int) + 1)
    clear HS HR HL HA hA
    go_wp2
    go_round
    case rel => exact ⟨k + 1, by omega, by go_num, by simp [wire_GetNum.m]⟩
    case measure => simp [intOf]; omega
   ·obtain rfl : k = m := by omega
    go_wp2_with (go_at_call 52; refine (wire_signed.calls _ _ _ _ _ HS.out).mono ?_; rintro e w1 ⟨rfl, hd⟩)
    all_goals (try go_quiet (fail))
    all_goals (try go_wp2)
    all_goals go_ret3
    all_goals exact ⟨rfl, by first | exact pw_below_drewN (below_then HL.out HL.out.size hd.below) _ | exact below_then HL.out HL.out.size hd.below⟩
set_option maxHeartbeats 400000 in
set_option maxRecDepth 100000 in
theorem wire_GetNum.calls (a0 : ByteArray) (r1 : Int) (r2 : ByteArray) (r3 : Int) (w : World) (h : wire_GetNum.f a0 = some (r1, r2, r3)) :
  Calls Tryd.prog 31 #[.string a0] w fun e w' => e = .returned (.tuple #[.int .i64 r1, .string r2, .int .i64 r3]) ∧ Below w.heap.size w w' := by
 unfold wire_GetNum.f at h
 by_cases c0 : a0.size = 0
 ·rw [if_pos c0] at h
  simp only [Option.some.injEq, Prod.mk.injEq] at h
  obtain ⟨rfl, rfl, rfl⟩ := h
  have n0 := wire_GetNum.empty a0 c0
  clear c0
  go_enter Tryd.func31, Tryd.ntmps31
  go_wp2
  go_ret3
  exact ⟨rfl, Below.refl _ _⟩
 rw [if_neg c0] at h
 have p4 : 0 < a0.size := by omega
 have n0 := wire_GetNum.full a0 p4
 have hx4 : ∀ h : 0 < a0.size, ((a0[0]'h).toNat : Int) = bt a0 0 := bt_at a0 0
 have hr := wire_GetNum.rng a0
 have hr2 := Go.bits_hi_u8 .andNot (bt a0 0) 128
 clear c0
 obtain ⟨m, hm⟩ : ∃ m : Nat, Go.bits .andNot .u8 (bt a0 0) 128 = (m : Int) := ⟨_, (Int.toNat_of_nonneg hr).symm⟩
 rw [hm] at h hr hr2
 by_cases c1 : 8 < (m : Int)
 ·rw [if_pos c1] at h
  simp only [Option.some.injEq, Prod.mk.injEq] at h
  obtain ⟨rfl, rfl, rfl⟩ := h
  have hd : decide (8 < (m : Int)) = true := decide_eq_true c1
  have hd2 : (8 < m) = True := by simp; omega
  go_enter Tryd.func31, Tryd.ntmps31
  go_wp2
  go_ret3
  exact ⟨rfl, Below.refl _ _⟩
 rw [if_neg c1] at h
 have h8 : m ≤ 8 := by omega
 by_cases c2 : (a0.size : Int) ≤ (m : Int)
 ·rw [if_pos c2] at h
  simp only [Option.some.injEq, Prod.mk.injEq] at h
  obtain ⟨rfl, rfl, rfl⟩ := h
  have hd2 : (a0.size ≤ m) = True := by simp; omega
  clear c1
  go_enter Tryd.func31, Tryd.ntmps31
  go_wp2
  go_ret3
  exact ⟨rfl, Below.refl _ _⟩
 rw [if_neg c2] at h
 have hd2 : (a0.size ≤ m) = False := by simp; omega
 by_cases c3 : 0 < (m : Int) ∧ bt a0 1 = 0
 ·rw [if_pos c3] at h
  simp only [Option.some.injEq, Prod.mk.injEq] at h
  obtain ⟨rfl, rfl, rfl⟩ := h
  have hd3 : (0 < m) = True := by simp; omega
  have hx5 : ∀ h : 1 < a0.size, ((a0[1]'h).toNat : Int) = bt a0 1 := bt_at a0 1
  have q5 : 1 < a0.size := by omega
  have hb2 : (bt a0 1 == 0) = true := by rw [beq_iff_eq]; exact c3.2
  clear c1 c2 c3
  go_enter Tryd.func31, Tryd.ntmps31
  go_wp2
  go_ret3
  exact ⟨rfl, Below.refl _ _⟩
 rw [if_neg c3] at h
 obtain ⟨⟨n, b⟩, hs, h⟩ := Option.bind_eq_some_iff.mp h
 rw [Int.toNat_natCast] at hs h
 refine (wire_GetNum.walk a0 w n b m hs hm (by omega) (by omega) (fun h => c3 ⟨by omega, h.2⟩)).mono ?_
 rintro e w' ⟨rfl, hb⟩
 refine ⟨?_, hb⟩
 cases b
 ·simp only [Bool.false_eq_true, if_false, Option.some.injEq, Prod.mk.injEq] at h ⊢
  obtain ⟨rfl, rfl, rfl⟩ := h
  rfl
 ·simp only [if_true, Option.some.injEq, Prod.mk.injEq] at h ⊢
  obtain ⟨rfl, rfl, rfl⟩ := h
  rfl


end Go.Proofs.YthlnjbaichkipaaDoor.XR
