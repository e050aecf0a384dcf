-- by px.py, a program of this session, over the kit's printer: functions given by hand stand beside printed ones. Lean checks all of it.
import Derived.Test.YtgcilfpoblijnaaXL0
import Derived.Test.YtgcilfpoblijnaaXL1
namespace Go.Proofs.Ytgcilfpoblijnaa.XL
open Go.RowKit Go.Proofs.YtgcilfpoblijnaaW.PrintWords Go.Proofs.YtgcilfpoblijnaaW.PrintLast Go.Proofs.YtgcilfpoblijnaaW.PrintMore
attribute [local go_sem] max2_int min2_int max_two min_two max_three min_three max_four min_four   -- for this text's walks alone
set_option linter.unusedVariables false
set_option linter.unusedSimpArgs false

/-! ### wire_Put: function 65, by hand -/
/-- A whole number's magnitude. -/
def wire_Put.mag (n : Int) : Nat := n.natAbs
def wire_Put.many (n : Int) : Nat := (Lib.bitLen n.natAbs + 7) / 8
def wire_Put.byte (m i : Nat) : Int := (m : Int) / 2 ^ (8 * (7 - i)) % 256
/-- A number's bytes. -/
def wire_Put.bytes (n : Int) : List Int :=
  Go.bits .or .u8 (if n < 0 then 128 else 0) (wire_Put.many n : Int) :: ((List.range 8).map (wire_Put.byte n.natAbs)).drop (8 - wire_Put.many n)
def wire_Put.f (l0 : List Int) (a1 : Int) : Option (List Int) :=
  if -9223372036854775808 ≤ a1 ∧ a1 ≤ 9223372036854775807 ∧ l0.length + 9 ≤ 140737488355328 then some (l0 ++ wire_Put.bytes a1) else none
theorem wire_Put.bitLen_le (n : Nat) : Lib.bitLen n ≤ 64 := by
  have h : ∀ f x, Lib.bitLenAux f x ≤ f := by
    intro f
    induction f with
    | zero => intro x; exact Nat.le_refl _
    | succ f ih => intro x; unfold Lib.bitLenAux; split; · omega
                   · have := ih (x / 2); omega
  exact h 64 n
def wire_Put.arr (m k : Nat) : Array Value := ((List.range 8).map fun i => Value.int .u8 (if i < k then wire_Put.byte m i else 0)).toArray
structure wire_Put.Arr (m g k : Nat) (w W : World) : Prop where
  below : Below g w W
  size : W.heap.size = g + 1
  blk : W.heap[g]? = some (.cells (wire_Put.arr m k) 99 (0, 0))
theorem wire_Put.arr_size (m k : Nat) : (wire_Put.arr m k).size = 8 := by simp [wire_Put.arr]
theorem wire_Put.Arr.cell {m g k : Nat} {w W : World} (h : wire_Put.Arr m g k w W) (j : Nat) (hj : j < 8) : W.cell? ⟨g, j, none⟩ = some (.int .u8 (if j < k then wire_Put.byte m j else 0)) := by
  rw [cell_of_row W g j _ _ _ h.blk]
  simp [wire_Put.arr, hj]
theorem wire_Put.Arr.frozen {m g k : Nat} {w W : World} (h : wire_Put.Arr m g k w W) (j : Nat) : W.frozen? ⟨g, j, none⟩ = false := by
  have := h.blk
  simp [World.frozen?, this]
theorem wire_Put.Arr.first (m : Nat) (w : World) (cs : Array Value) (h : cs = #[.int .u8 0, .int .u8 0, .int .u8 0, .int .u8 0, .int .u8 0, .int .u8 0, .int .u8 0, .int .u8 0]) : wire_Put.Arr m w.heap.size 0 w (w.alloc (.cells cs 99)) := by
  refine ⟨(Below.refl _ _).alloc (Nat.le_refl _) _, by simp, ?_⟩
  rw [heap_alloc_new, h]
  rfl
theorem wire_Put.Arr.step {m g k : Nat} {w W : World} (h : wire_Put.Arr m g k w W) (hk : k < 8) : wire_Put.Arr m g (k + 1) w (W.setCell ⟨g, k, none⟩ (.int .u8 (wire_Put.byte m k))) := by
  refine ⟨h.below.setCell (p := ⟨g, k, none⟩) (Nat.le_refl _) _, by simp [World.setCell, h.size], ?_⟩
  rw [blk_set h.blk k _]
  congr 2
  apply Array.ext
  · simp [wire_Put.arr]
  · intro i h1 h2
    rw [Array.getElem_setIfInBounds (by simpa using h1)]
    by_cases hi : k = i
    · subst hi; simp [wire_Put.arr]
    · rw [if_neg hi]
      have h3 : (i < k + 1) ↔ (i < k) := by omega
      simp [wire_Put.arr, h3]
theorem wire_Put.cutArr (g nm : Nat) (h : nm ≤ 8) : ∃ A : Addr, (0 < nm → A = ⟨g, 8 - nm, none⟩) ∧ ∀ W : World, (Instr.sliceAt 99 (.pointer (some ⟨g, 0, none⟩)) (some (.int .i64 (8 - (nm : Int)))) none none).run Try.prog W = .ok (.slice (some A) nm nm) W := by
  refine ⟨if 8 = 8 - nm then ⟨g, 0, none⟩ else (⟨g, 0, none⟩ : Addr).add (8 - nm), fun h0 => ?_, fun W => ?_⟩
  · rw [if_neg (by omega), add_plain]
  · have ha : Try.prog.arrayLen 99 = 8 := by kernel_rfl
    have he : Try.prog.elem 99 = 5 := by kernel_rfl
    obtain ⟨i0, hi, hz⟩ := info_parts info5
    rw [run_sliceAt_array_l W 99 ⟨g, 0, none⟩ (by rw [ha, he]; exact Try.underlying99) .i64 (8 - (nm : Int)) (by omega) (by rw [ha]; omega), ha, he]
    have ht : (8 - (nm : Int)).toNat = 8 - nm := by omega
    simp [slicedAt, ht, sizeOf, typeInfo, hi, hz.2.1, Result.andThen, show 8 - (8 - nm) = nm by omega]
theorem wire_Put.Arr.reads {m g nm : Nat} {w W : World} {A : Addr} (h : W.heap[g]? = some (.cells (wire_Put.arr m 8) 99 (0, 0))) (hn : nm ≤ 8) (hA : 0 < nm → A = ⟨g, 8 - nm, none⟩) : (Kd.int .u8).C W (some A) nm (((List.range 8).map (wire_Put.byte m)).drop (8 - nm)) := by
  refine Kd.C_of_reads (d := 0) ⟨by simp; omega, by omega, fun h0 => ⟨A, rfl, fun j hj => ?_⟩⟩
  rw [hA h0]
  have e : (⟨g, 8 - nm, none⟩ : Addr).add j = ⟨g, 8 - nm + j, none⟩ := by unfold Addr.add; split <;> simp_all
  rw [e, cell_of_row W g _ _ _ _ h]
  have hlt : 8 - nm + j < 8 := by omega
  simp [wire_Put.arr, List.getD_eq_getElem?_getD, List.getElem?_drop, List.getElem?_range, hlt]
set_option maxHeartbeats 400000 in
set_option maxRecDepth 100000 in
theorem wire_Put.calls (P0_ : Nat → Prop) (u9000_ : Value) (l0 : List Int) (a1 : Int) (r : List Int) (w0 w : World) (hB : Below w0.heap.size w0 w) (ho0 : Kd.R (Kd.int .u8) 5 w w0.heap.size P0_ u9000_ l0) (h : wire_Put.f l0 a1 = some r) :
    Calls Try.prog 65 #[u9000_, .int .i64 a1] w fun e w' => ∃ v0_ : Value, e = .returned (v0_) ∧ Kd.R (Kd.int .u8) 5 w' w0.heap.size (fun k_ => (P0_ k_ ∨ w.heap.size ≤ k_)) v0_ r ∧ Below w0.heap.size w0 w' ∧ Kept w w' (fun k_ => P0_ k_) := by
  unfold wire_Put.f at h
  split at h
  rotate_left
  · cases h
  rename_i hc
  obtain rfl := Option.some.inj h
  obtain ⟨hlo, hhi, hlen⟩ := hc
  clear h
  have HO := Lib.hid ho0; clear ho0
  obtain ⟨m, hm⟩ : ∃ m : Nat, (m : Int) = a1.natAbs := ⟨_, rfl⟩
  have hmb : m ≤ 9223372036854775808 := by omega
  have HM := Lib.hid hm; clear hm
  have hbl := wire_Put.bitLen_le m
  obtain ⟨bn, hbn⟩ : ∃ bn, Lib.bitLen m = bn := ⟨_, rfl⟩
  rw [hbn] at hbl
  obtain ⟨nm, hnm⟩ : ∃ nm : Nat, ((bn : Int) + 7) / 8 = (nm : Int) := ⟨(bn + 7) / 8, by omega⟩
  have hnm8 : nm ≤ 8 := by omega
  have hw8 : wrap64 (8 - (nm : Int)) = 8 - (nm : Int) := by unfold wrap64; omega
  have hwu : IntKind.u8.wrap (nm : Int) = (nm : Int) := by rw [IntKind.wrap_u8]; omega
  have HP : Hid (wire_Put.bytes a1 = bits .or .u8 (if a1 < 0 then 128 else 0) (nm : Int) :: ((List.range 8).map (wire_Put.byte m)).drop (8 - nm)) := by
    refine Lib.hid ?_
    have e : a1.natAbs = m := by have := HM.out; omega
    have e2 : wire_Put.many a1 = nm := by unfold wire_Put.many; rw [e, hbn]; omega
    unfold wire_Put.bytes
    rw [e2, e]
  have HBN := Lib.hid hbn; clear hbn
  have HS : ∃ h0 : Int, Hid ((if a1 < 0 then 128 else 0) = h0) ∧ (a1 < 0 ∧ h0 = 128 ∧ IntKind.u64.wrap (-(IntKind.u64.wrap a1)) = (m : Int) ∨ 0 ≤ a1 ∧ h0 = 0 ∧ IntKind.u64.wrap a1 = (m : Int)) := by
    have hm := HM.out
    by_cases hn : a1 < 0
    · exact ⟨128, Lib.hid (by rw [if_pos hn]), .inl ⟨hn, rfl, by rw [IntKind.wrap_u64, IntKind.wrap_u64]; omega⟩⟩
    · exact ⟨0, Lib.hid (by rw [if_neg hn]), .inr ⟨by omega, rfl, by rw [IntKind.wrap_u64]; omega⟩⟩
  obtain ⟨h0, HH, hcase⟩ := HS
  obtain ⟨hv, hhv⟩ : ∃ hv, bits .or .u8 h0 (nm : Int) = hv := ⟨_, rfl⟩
  have HV := Lib.hid (show wire_Put.bytes a1 = hv :: ((List.range 8).map (wire_Put.byte m)).drop (8 - nm) by rw [HP.out, HH.out, hhv])
  clear HP HH HM
  rcases hcase with ⟨hn, rfl, e1⟩ | ⟨hn, rfl, e1⟩
  all_goals (first | have hd : decide (a1 < 0) = true := decide_eq_true hn | have hd : decide (a1 < 0) = false := decide_eq_false (by omega))
  all_goals
    go_enter Try.func65, Try.ntmps65
    go_wp2_with (go_at_call 81; refine (bits_Len64.calls (m : Int) (bn : Int) _ (by unfold bits_Len64.f; rw [if_pos (by omega), Int.toNat_natCast, HBN.out])).mono ?_; rintro e w' ⟨rfl, hd⟩)
    obtain ⟨Aa, hAa, hcut⟩ := wire_Put.cutArr w'.heap.size nm hnm8
    have HAa := Lib.hid hAa; clear hAa
    have ha := wire_Put.Arr.first m w' _ rfl
    have HA := Lib.hid ha; clear ha
    go_loopw [20] (fun v20 wr => ∃ k : Nat, k ≤ 8 ∧ v20 = .int .i64 k ∧ Hid (wire_Put.Arr m w'.heap.size k w' wr)) (fun v20 _ => 8 - (intOf v20).toNat)
    case atStart => exact ⟨0, by omega, rfl, HA⟩
    case round =>
      clear HA
      obtain ⟨k, hk, rfl, HA⟩ := hrel
      by_cases hk8 : k < 8
      · have hcell := HA.out.cell k hk8
        have hfr := HA.out.frozen k
        clear hcut hhv hwu hw8
        go_wp2
        go_roundw
        case rel => exact ⟨k + 1, by omega, by go_num, Lib.hid (HA.out.step hk8)⟩
        case measure => simp [intOf]; omega
      · obtain rfl : k = 8 := by omega
        go_wp2
        have hs1 := hd.below
        have hs2 := HA.out.below
        have hs3 := HA.out.blk
        have hb := below_drew1 (below_then hs1 hs1.size hs2)
        have HBW := Lib.hid hb; have HBL := Lib.hid (show wr.drew.heap[w'.heap.size]? = _ from hs3)
        clear HA hs1 hs2 hs3 hb
        refine start_ (n := 12) (S := fun w' => True) (ds := []) #[false, false, false, false, false, false, false, false, false, false, false, false] (by kernel_rfl) rfl rfl trivial (fun hHeld => ?_)
        generalize wr.drew = W1 at HBW HBL ⊢
        refine pure_ (i := 0) (N := some 32) (v := ?_) (a' := ?_) #[true, false, false, false, false, false, false, false, false, false, false, false] rfl rfl (by kernel_rfl) (fun _ _ _ h => h) (Or.inl ⟨by rfl, ?_⟩) ?_ ?_
        rotate_left
        · intro w'
          go_simp
          with_reducible rfl
        rotate_left
        · simp only [Act.put, List.setIfInBounds_toArray, List.set_cons_zero, List.set_cons_succ, i64_w, i32_w]
          rfl
        refine pure_ (i := 1) (N := some 33) (v := ?_) (a' := ?_) #[true, true, false, false, false, false, false, false, false, false, false, false] rfl rfl (by kernel_rfl) (fun _ _ _ h => h) (Or.inl ⟨by rfl, ?_⟩) ?_ ?_
        rotate_left
        · intro w'
          go_simp
          with_reducible rfl
        rotate_left
        · simp only [Act.put, List.setIfInBounds_toArray, List.set_cons_zero, List.set_cons_succ, i64_w, i32_w]
          rfl
        refine pure_ (i := 2) (N := some 34) (v := ?_) (a' := ?_) #[true, true, true, false, false, false, false, false, false, false, false, false] rfl rfl (by kernel_rfl) (fun _ _ _ h => h) (Or.inl ⟨by rfl, ?_⟩) ?_ ?_
        rotate_left
        · intro w'
          go_simp
          with_reducible rfl
        rotate_left
        · simp only [Act.put, List.setIfInBounds_toArray, List.set_cons_zero, List.set_cons_succ, i64_w, i32_w]
          rfl
        refine pure_ (i := 3) (N := some 35) (v := ?_) (a' := ?_) #[true, true, true, true, false, false, false, false, false, false, false, false] rfl rfl (by kernel_rfl) (fun _ _ _ h => h) (Or.inl ⟨by rfl, ?_⟩) ?_ ?_
        rotate_left
        · intro w'
          go_simp
          with_reducible rfl
        rotate_left
        · simp only [Act.put, List.setIfInBounds_toArray, List.set_cons_zero, List.set_cons_succ, i64_w, i32_w]
          rfl
        refine pure_ (i := 4) (N := some 36) (v := ?_) (a' := ?_) #[true, true, true, true, true, false, false, false, false, false, false, false] rfl rfl (by kernel_rfl) (fun _ _ _ h => h) (Or.inl ⟨by rfl, ?_⟩) ?_ ?_
        rotate_left
        · intro w'
          go_simp
          with_reducible rfl
        rotate_left
        · simp only [Act.put, List.setIfInBounds_toArray, List.set_cons_zero, List.set_cons_succ, i64_w, i32_w]
          rfl
        refine pure_ (i := 7) (N := some 39) (v := ?_) (a' := ?_) #[true, true, true, true, true, false, false, true, false, false, false, false] rfl rfl (by kernel_rfl) (fun _ _ _ h => h) (Or.inl ⟨by rfl, ?_⟩) ?_ ?_
        rotate_left
        · intro w'
          go_simp
          with_reducible rfl
        rotate_left
        · simp only [Act.put, List.setIfInBounds_toArray, List.set_cons_zero, List.set_cons_succ, i64_w, i32_w]
          rfl
        refine pure_ (i := 8) (N := some 40) (v := ?_) (a' := ?_) #[true, true, true, true, true, false, false, true, true, false, false, false] rfl rfl (by kernel_rfl) (fun _ _ _ h => h) (Or.inl ⟨by rfl, ?_⟩) ?_ ?_
        rotate_left
        · intro w'
          go_simp
          with_reducible rfl
        rotate_left
        · simp only [Act.put, List.setIfInBounds_toArray, List.set_cons_zero, List.set_cons_succ, i64_w, i32_w]
          rfl
        refine pure_ (i := 9) (N := some 41) (v := ?_) (a' := ?_) #[true, true, true, true, true, false, false, true, true, true, false, false] rfl rfl (by kernel_rfl) (fun _ _ _ h => h) (Or.inl ⟨by rfl, ?_⟩) ?_ ?_
        rotate_left
        · intro w'
          go_simp
          with_reducible rfl
        rotate_left
        · simp only [Act.put, List.setIfInBounds_toArray, List.set_cons_zero, List.set_cons_succ, i64_w, i32_w]
          rfl
        refine one_ (i := 5) (N := some 37) #[true, true, true, true, true, true, false, true, true, true, false, false] rfl rfl (by kernel_rfl) (by decide) (fun K hK => ?_)
        refine event_step (w1 := W1.alloc (.cells #[.int .u8 hv] 5)) (v := .slice (some ⟨W1.heap.size, 0, none⟩) 1 1) rfl (by go_simp) ?_
        refine hK.out _ _ trivial (fun hHeld => ?_)
        clear hK K
        refine norm_ (a' := ?_) ?_ ?_
        rotate_left
        · show Act.put _ (some 37) _ = _
          simp only [Act.put, List.setIfInBounds_toArray, List.set_cons_zero, List.set_cons_succ, i64_w, i32_w]
          rfl
        have hsz := HBW.out.size
        have HO1 : Kd.R (Kd.int .u8) 5 W1 w0.heap.size (fun k_ => P0_ k_ ∨ w.heap.size ≤ k_) u9000_ l0 := Kd.R_mono (Kd.R_below HO.out HBW.out) (fun _ hk => .inl hk)
        have hne := Kd.R_ne HO1 HBL.out (by decide)
        have hB1 : Below w0.heap.size w0 W1 := below_then hB hB.size HBW.out
        refine one_ (i := 6) (N := some 38) #[true, true, true, true, true, true, true, true, true, true, false, false] rfl rfl (by kernel_rfl) (by decide) (fun K hK => ?_)
        refine Kd.R_append_step (Kd.int .u8) (w0 := w0) w0.heap.size rfl (.tmp 32) (.tmp 37) 41 5 (.int .u8 0) 1 rfl Try.underlying41 info5 rfl (by decide) (by decide) u9000_ l0 hv [.int .u8 hv] (fun k_ => P0_ k_ ∨ w.heap.size ≤ k_) (fun _ => False) rfl rfl rfl (fun _ h => h.elim) (fun k_ hk => .inr (Nat.le_trans hsz hk)) HO1 hB1 hB1.size (by omega) ?_
        intro v1 w1 HO2 hb2 hg2 hat2
        refine hK.out _ _ trivial (fun hHeld => ?_)
        clear hK K
        refine norm_ (a' := ?_) ?_ ?_
        rotate_left
        · show Act.put _ (some 38) _ = _
          simp only [Act.put, List.setIfInBounds_toArray, List.set_cons_zero, List.set_cons_succ, i64_w, i32_w]
          rfl
        have HC := wire_Put.Arr.reads (w := w') (nm := nm) (A := Aa) (blk_grown HBL.out hg2 hne) hnm8 HAa.out
        refine one_ (i := 10) (N := some 42) #[true, true, true, true, true, true, true, true, true, true, true, false] rfl rfl (by kernel_rfl) (by decide) (fun K hK => ?_)
        refine Kd.R_append_rows_step (Kd.int .u8) (w0 := w0) w0.heap.size rfl (.tmp 38) (.tmp 41) 41 5 (.int .u8 0) 1 rfl Try.underlying41 info5 rfl (by decide) (by decide) v1 (l0 ++ [hv]) (((List.range 8).map (wire_Put.byte m)).drop (8 - nm)) (some Aa) nm nm (fun k_ => P0_ k_ ∨ w.heap.size ≤ k_) (fun _ => False) rfl rfl HO2 HC (fun _ _ h => h) (fun _ h => h.elim) (fun k_ hk => .inr (Nat.le_trans hsz (Nat.le_trans hg2.size hk))) hb2 hb2.size (by simp; omega) ?_
        intro v2 w2 HO3 hb3 hg3 hat3
        refine hK.out _ _ trivial (fun hHeld => ?_)
        clear hK K
        refine norm_ (a' := ?_) ?_ ?_
        rotate_left
        · show Act.put _ (some 42) _ = _
          simp only [Act.put, List.setIfInBounds_toArray, List.set_cons_zero, List.set_cons_succ, i64_w, i32_w]
          rfl
        refine pure_ (i := 11) (N := some 4) (v := ?_) (a' := ?_) #[true, true, true, true, true, true, true, true, true, true, true, true] rfl rfl (by kernel_rfl) (fun _ _ _ h => h) (Or.inl ⟨by rfl, ?_⟩) ?_ ?_
        rotate_left
        · intro w'
          go_simp
          with_reducible rfl
        rotate_left
        · simp only [Act.put, List.setIfInBounds_toArray, List.set_cons_zero, List.set_cons_succ, i64_w, i32_w]
          rfl
        refine done_ (by kernel_rfl) ?_
        go_wp2
        go_ret
        refine ⟨_, rfl, ?_, hb3, ?_⟩
        · rw [HV.out, List.append_cons]; exact HO3
        · exact Kept.of_grown hg3 (Kept.of_grown hg2 (Kept.of_below HBW.out _) (fun k hk => HO1.1 k hk)) (fun k hk => HO2.1 k hk)


/-! ### wire_Nums: function 36 -/
def wire_Nums.l0 : Nat → List Int → List Int → Int → Int → Option (ByteArray × Int)
  | 0, _, _, _, _ => none
  | k + 1, x4, x13, x14, x15 => if x15 < x14 then (if 0 ≤ x15 then (if x15 < (x13.length : Int) then ((wire_Put.f x4 (rd x13 x15)).bind fun t114 => (wire_Nums.l0 k t114 x13 x14 (wrap64 (x15 + 1)))) else (none)) else (none)) else (some (strOfNums x4, 0))
def wire_Nums.f (k : Nat) (l0 : List Int) : Option (ByteArray × Int) := if (l0.length : Int) > 1024 then (some ((⟨#[]⟩ : ByteArray), 12)) else ((wire_Put.f ([] : List Int) (l0.length : Int)).bind fun t110 => (wire_Nums.l0 k t110 l0 (l0.length : Int) 0))
theorem wire_Nums.mono_l : ∀ k, (∀ y0 y1 y2 y3, LeO (wire_Nums.l0 k y0 y1 y2 y3) (wire_Nums.l0 (k + 1) y0 y1 y2 y3))
  | 0 => fun _ _ _ _ r h => by simp [wire_Nums.l0] at h
  | k + 1 => by
    have ih0 := wire_Nums.mono_l k
    · intro y0 y1 y2 y3
      unfold wire_Nums.l0
      repeat' first
      | (with_reducible exact ih0 _ _ _ _)
      | (with_reducible exact LeO.refl _)
      | (with_reducible exact LeO.none _)
      | (with_reducible refine LeO.ite ?_ ?_)
      | (with_reducible refine LeO.bind ?_ (fun _ => ?_))
      | exact ih0 _ _ _ _
      | exact LeO.none _
      | refine LeO.ite ?_ ?_
      | refine LeO.bind ?_ (fun _ => ?_)
theorem wire_Nums.mono : ∀ a0 k, LeO (wire_Nums.f k a0) (wire_Nums.f (k + 1) a0) := by
  intro a0 k
  have ih0 := wire_Nums.mono_l k
  unfold wire_Nums.f
  repeat' first
      | (with_reducible exact ih0 _ _ _ _)
      | (with_reducible exact LeO.refl _)
      | (with_reducible exact LeO.none _)
      | (with_reducible refine LeO.ite ?_ ?_)
      | (with_reducible refine LeO.bind ?_ (fun _ => ?_))
      | exact ih0 _ _ _ _
      | exact LeO.none _
      | refine LeO.ite ?_ ?_
      | refine LeO.bind ?_ (fun _ => ?_)
set_option maxHeartbeats 8000000 in
set_option maxRecDepth 100000 in
theorem wire_Nums.calls (k : Nat) (A0 : Option Addr) (c0 : Nat) (l0 : List Int) (r1 : ByteArray) (r2 : Int) (w : World) (hr0 : Kd.C (Kd.int .i64) w A0 l0.length l0) (hc0 : l0.length ≤ c0) (h : wire_Nums.f k l0 = some (r1, r2)) :
    Calls Try.prog 36 #[.slice A0 l0.length c0] w fun e w' => e = .returned (.tuple #[.string r1, .int .i64 r2]) ∧ Below w.heap.size w w' := by
  have HR0 := Aside0.mk hr0
  have HC0 := Aside0.mk hc0
  clear hr0 hc0
  have HB := Aside0.mk (Below.refl w.heap.size w)
  have H : (if (l0.length : Int) > 1024 then (some ((⟨#[]⟩ : ByteArray), 12)) else ((wire_Put.f ([] : List Int) (l0.length : Int)).bind fun t110 => (wire_Nums.l0 k t110 l0 (l0.length : Int) 0))) = some (r1, r2) := h
  clear h
  by_cases c2 : (l0.length : Int) > 1024
  · rw [if_pos c2] at H
    have c2b0 : decide (1024 < (l0.length : Int)) = true := decide_eq_true c2
    have c2b1 : decide (1024 < l0.length) = true := decide_eq_true (by omega)
    clear c2
    simp only [Option.some.injEq, Prod.mk.injEq] at H
    obtain ⟨rfl, rfl⟩ := H
    go_enter Try.func36, Try.ntmps36
    go_wp2
    go_ret2
    exact ⟨by first | rfl | (simp [errW_none, errW_some] <;> rfl) | (simp [*, errW_none, errW_some] <;> rfl), by repeat (first | (with_reducible first | exact HB.out | apply below_alloc | apply pw_below_drewN | apply below_drew1) | exact HB.out)⟩
  · rw [if_neg c2] at H
    have c2b0 : decide (1024 < (l0.length : Int)) = false := decide_eq_false c2
    have c2b1 : decide (1024 < l0.length) = false := decide_eq_false (by omega)
    clear c2
    replace H := Option.bind_eq_some_iff.mp H
    obtain ⟨t110, A30, H⟩ := H
    replace H : (wire_Nums.l0 k t110 l0 (l0.length : Int) 0) = some (r1, r2) := H
    have A3 := Aside0.mk A30
    clear A30
    have H' := Aside0.mk H
    clear H
    go_enter Try.func36, Try.ntmps36
    go_wp2_with (first | ((with_reducible refine gate_callee (f := 65) rfl ?_); refine goesL_ (some 12) rfl rfl Try.func65 (by kernel_rfl) rfl #[.slice none 0 0, .int .i64 (l0.length : Int)] rfl (by (try simp only [List.map_toArray, List.map_cons, List.map_nil]); first | done | rfl | (simp only [List.length_drop, List.length_take]; rfl)) ?_; (refine (wire_Put.calls (fun k_ => some k_ = (.slice none 0 0 : Value).ownBlock) (.slice none 0 0) ([] : List Int) (l0.length : Int) t110 w _ ?side1 ?side2 A3.out).mono ?_); (case side1 => repeat (first | (with_reducible first | exact HB.out | apply below_alloc | apply pw_below_drewN | apply below_drew1) | exact HB.out)); (case side2 => exact Kd.R_nil _ _ _ _ _); rintro e w4 ⟨v111, rfl, ho0, hb, hkp⟩; refine ⟨_, rfl, ?_⟩; have n0_ := Aside0.mk (Kd.R_mono (ok' := fun k_ => True) ho0 (fun k_ hk_ => trivial)); have n1_ := Aside0.mk (hb); clear HB; have HO112 := n0_; have HB := n1_; clear n0_ n1_; (try clear hb); (try clear hkp); (try clear ho0)))
    go_loopg [4, 15] k (fun kq v4 v15 w' => ∃ (x4_1 : List Int) (x15_1 : Int), v15 = .int .i64 x15_1 ∧ Aside0 (wire_Nums.l0 kq x4_1 l0 (l0.length : Int) x15_1 = some (r1, r2)) ∧ Aside0 (kq ≤ k) ∧ Aside0 (Kd.R (Kd.int .u8) 5 w' w.heap.size (fun _ => True) v4 x4_1) ∧ Aside0 (Below w.heap.size w w'))
    case atStart => exact ⟨(t110), (0), (by first | rfl | (simp; done) | (simp [*]; done)), H', ⟨Nat.le_refl _⟩, ⟨by (with_reducible repeat (first | apply Kd.R_alloc | apply Kd.R_drewN | apply Kd.R_drew)); exact HO112.out⟩, ⟨by repeat (first | (with_reducible first | exact HB.out | apply below_alloc | apply pw_below_drewN | apply below_drew1) | exact HB.out)⟩⟩
    case round =>
      clear H'
      try clear c2
      try clear c2b0
      try clear c2b1
      try clear p2
      try clear c3
      obtain ⟨x4_1, x15_1, rfl, HA, HK1, HO_4, HB⟩ := hrel
      cases gk with
      | zero => exact absurd HA.out (by simp [wire_Nums.l0])
      | succ k1 =>
        have H := HA.out
        clear HA
        simp only [wire_Nums.l0] at H
        by_cases c5 : x15_1 < (l0.length : Int)
        · rw [if_pos c5] at H
          have c5b0 : decide (x15_1 < (l0.length : Int)) = true := decide_eq_true c5
          clear c5
          by_cases c6 : 0 ≤ x15_1
          · rw [if_pos c6] at H
            have c6b0 : decide (0 ≤ x15_1) = true := decide_eq_true c6
            clear c6
            by_cases c7 : x15_1 < (l0.length : Int)
            · rw [if_pos c7] at H
              have c7b0 : decide (x15_1 < (l0.length : Int)) = true := decide_eq_true c7
              clear c7
              replace H := Option.bind_eq_some_iff.mp H
              obtain ⟨t114, A80, H⟩ := H
              replace H : (wire_Nums.l0 k1 t114 l0 (l0.length : Int) (wrap64 (x15_1 + 1))) = some (r1, r2) := H
              have A8 := Aside0.mk A80
              clear A80
              have H' := Aside0.mk H
              clear H
              have p113 : 0 ≤ (x15_1 : Int) := of_decide_eq_true (by first | (with_reducible assumption) | assumption)
              have q113 : x15_1 < (l0.length : Int) := of_decide_eq_true (by first | (with_reducible assumption) | assumption)
              obtain ⟨ad113, e113, hx113_0⟩ := Kd.at_int HR0.out x15_1 p113 q113
              cases e113
              replace hx113_0 := (HB.out.cell (World.block_lt_of_cell? w _ hx113_0)).trans hx113_0
              replace p113 := eq_true p113
              replace q113 := eq_true q113
              obtain ⟨Ao9, co9, eo9⟩ := Kd.R_slice HO_4.out
              subst eo9
              go_wp2_with (first | ((with_reducible refine gate_callee (f := 65) rfl ?_); refine goesL_ (some 21) rfl rfl Try.func65 (by kernel_rfl) rfl #[.slice Ao9 x4_1.length co9, .int .i64 (rd l0 x15_1)] rfl (by (try simp only [List.map_toArray, List.map_cons, List.map_nil]); first | done | rfl | (simp only [List.length_drop, List.length_take]; rfl)) ?_; (with_reducible refine (wire_Put.calls (fun k_ => some k_ = (.slice Ao9 x4_1.length co9 : Value).ownBlock) (.slice Ao9 x4_1.length co9) x4_1 (rd l0 x15_1) t114 w _ ?side1 ?side2 A8.out).mono ?_); (case side1 => repeat (first | (with_reducible first | exact HB.out | apply below_alloc | apply pw_below_drewN | apply below_drew1) | exact HB.out)); (case side2 => exact Kd.R_tight rfl HO_4.out); rintro e w10 ⟨v115, rfl, ho0, hb, hkp⟩; refine ⟨_, rfl, ?_⟩; have n0_ := Aside0.mk (Kd.R_mono (ok' := fun k_ => True) ho0 (fun k_ hk_ => trivial)); have n1_ := Aside0.mk (hb); clear HB; clear HO_4; have HO116 := n0_; have HB := n1_; clear n0_ n1_; (try clear hb); (try clear hkp); (try clear ho0)))
              go_roundg k1
              case measure => have := HK1.out; omega
              case rel => exact ⟨(t114), (wrap64 (x15_1 + 1)), (by first | rfl | (simp; done) | (simp [*]; done)), H', ⟨by have := HK1.out; omega⟩, ⟨by (with_reducible repeat (first | apply Kd.R_alloc | apply Kd.R_drewN | apply Kd.R_drew)); exact HO116.out⟩, ⟨by repeat (first | (with_reducible first | exact HB.out | apply below_alloc | apply pw_below_drewN | apply below_drew1) | exact HB.out)⟩⟩
            · rw [if_neg c7] at H
              exact absurd H (by simp)
          · rw [if_neg c6] at H
            exact absurd H (by simp)
        · rw [if_neg c5] at H
          have c5b0 : decide (x15_1 < (l0.length : Int)) = false := decide_eq_false c5
          clear c5
          simp only [Option.some.injEq, Prod.mk.injEq] at H
          obtain ⟨rfl, rfl⟩ := H
          have hcv11 := own_string (P := Try.prog) Try.underlying41 Try.underlying5 Try.underlying9 (Kd.own_of_R HO_4.out)
          go_wp2
          go_ret2
          exact ⟨by first | rfl | (simp [errW_none, errW_some] <;> rfl) | (simp [*, errW_none, errW_some] <;> rfl), by repeat (first | (with_reducible first | exact HB.out | apply below_alloc | apply pw_below_drewN | apply below_drew1) | exact HB.out)⟩

/-! ### bellmanref01_size: function 66 -/
def bellmanref01_size.f (a0 : Int) : Option (Int) := if a0 < 0 then (some (IntKind.u64.wrap ((IntKind.u64.wrap (wrap64 (-(wrap64 (a0 + 1))))) + 1))) else (some (IntKind.u64.wrap (a0)))
set_option maxHeartbeats 8000000 in
set_option maxRecDepth 100000 in
theorem bellmanref01_size.calls (a0 : Int) (r : Int) (w : World) (h : bellmanref01_size.f a0 = some r) :
    Calls Try.prog 66 #[.int .i64 a0] w fun e w' => e = .returned (.int .u64 r) ∧ Drawn0 w w' := by
  have H : (if a0 < 0 then (some (IntKind.u64.wrap ((IntKind.u64.wrap (wrap64 (-(wrap64 (a0 + 1))))) + 1))) else (some (IntKind.u64.wrap (a0)))) = some r := h
  clear h
  by_cases c2 : a0 < 0
  · rw [if_pos c2] at H
    have c2b0 : decide (a0 < 0) = true := decide_eq_true c2
    clear c2
    obtain rfl := Option.some.inj H
    go_enter Try.func66, Try.ntmps66
    go_wp2
    go_ret
    exact ⟨by first | rfl | (simp; done) | (simp [*]; done), by repeat (first | exact Drawn0.refl _ | apply Drawn0.step)⟩
  · rw [if_neg c2] at H
    have c2b0 : decide (a0 < 0) = false := decide_eq_false c2
    clear c2
    obtain rfl := Option.some.inj H
    go_enter Try.func66, Try.ntmps66
    go_wp2
    go_ret
    exact ⟨by first | rfl | (simp; done) | (simp [*]; done), by repeat (first | exact Drawn0.refl _ | apply Drawn0.step)⟩

/-! ### bellmanref01_Num: function 24 -/
def bellmanref01_Num.l0 : Nat → Int → ByteArray → Int → Option (ByteArray)
  | 0, _, _, _ => none
  | k + 1, x0, x3, x4 => if x4 > 0 then ((some (([(Int.tmod x4 256) % 256] : List Int) : List Int)).bind fun y118 => (if (strOfNums y118).size + x3.size ≤ 9223372036854775807 then (bellmanref01_Num.l0 k x0 ((strOfNums y118) ++ x3) (IntKind.u64.wrap (Int.tdiv x4 256))) else (none))) else (if x0 < 0 then ((some (([((((x3.size : Int)) % 256) + 128) % 256] : List Int) : List Int)).bind fun y121 => (if (strOfNums y121).size + x3.size ≤ 9223372036854775807 then (some ((strOfNums y121) ++ x3)) else (none))) else ((some (([((x3.size : Int)) % 256] : List Int) : List Int)).bind fun y124 => (if (strOfNums y124).size + x3.size ≤ 9223372036854775807 then (some ((strOfNums y124) ++ x3)) else (none))))
def bellmanref01_Num.f (k : Nat) (a0 : Int) : Option (ByteArray) := (bellmanref01_size.f a0).bind fun t117 => (bellmanref01_Num.l0 k a0 (⟨#[]⟩ : ByteArray) t117)
theorem bellmanref01_Num.mono_l : ∀ k, (∀ y0 y1 y2, LeO (bellmanref01_Num.l0 k y0 y1 y2) (bellmanref01_Num.l0 (k + 1) y0 y1 y2))
  | 0 => fun _ _ _ r h => by simp [bellmanref01_Num.l0] at h
  | k + 1 => by
    have ih0 := bellmanref01_Num.mono_l k
    · intro y0 y1 y2
      unfold bellmanref01_Num.l0
      repeat' first
      | (with_reducible exact ih0 _ _ _)
      | (with_reducible exact LeO.refl _)
      | (with_reducible exact LeO.none _)
      | (with_reducible refine LeO.ite ?_ ?_)
      | (with_reducible refine LeO.bind ?_ (fun _ => ?_))
      | exact ih0 _ _ _
      | exact LeO.none _
      | refine LeO.ite ?_ ?_
      | refine LeO.bind ?_ (fun _ => ?_)
theorem bellmanref01_Num.mono : ∀ a0 k, LeO (bellmanref01_Num.f k a0) (bellmanref01_Num.f (k + 1) a0) := by
  intro a0 k
  have ih0 := bellmanref01_Num.mono_l k
  unfold bellmanref01_Num.f
  repeat' first
      | (with_reducible exact ih0 _ _ _)
      | (with_reducible exact LeO.refl _)
      | (with_reducible exact LeO.none _)
      | (with_reducible refine LeO.ite ?_ ?_)
      | (with_reducible refine LeO.bind ?_ (fun _ => ?_))
      | exact ih0 _ _ _
      | exact LeO.none _
      | refine LeO.ite ?_ ?_
      | refine LeO.bind ?_ (fun _ => ?_)
set_option maxHeartbeats 8000000 in
set_option maxRecDepth 100000 in
theorem bellmanref01_Num.calls (k : Nat) (a0 : Int) (r : ByteArray) (w : World) (h : bellmanref01_Num.f k a0 = some r) :
    Calls Try.prog 24 #[.int .i64 a0] w fun e w' => e = .returned (.string r) ∧ Below w.heap.size w w' := by
  have HB := Aside0.mk (Below.refl w.heap.size w)
  have H : ((bellmanref01_size.f a0).bind fun t117 => (bellmanref01_Num.l0 k a0 (⟨#[]⟩ : ByteArray) t117)) = some r := h
  clear h
  replace H := Option.bind_eq_some_iff.mp H
  obtain ⟨t117, A20, H⟩ := H
  replace H : (bellmanref01_Num.l0 k a0 (⟨#[]⟩ : ByteArray) t117) = some r := H
  have A2 := Aside0.mk A20
  clear A20
  have H' := Aside0.mk H
  clear H
  go_enter Try.func24, Try.ntmps24
  go_wp2_with (first | ((with_reducible refine gate_callee (f := 66) rfl ?_); refine goesL_ (some 7) rfl rfl Try.func66 (by kernel_rfl) rfl #[.int .i64 a0] rfl (by (try simp only [List.map_toArray, List.map_cons, List.map_nil]); first | done | rfl | (simp only [List.length_drop, List.length_take]; rfl)) ?_; (with_reducible refine (bellmanref01_size.calls a0 t117 _ A2.out).mono ?_); rintro e w' ⟨rfl, ⟨nd, rfl⟩⟩; refine ⟨_, rfl, ?_⟩))
  go_loopg [3, 4] k (fun kq v3 v4 w' => ∃ (x3_1 : ByteArray) (x4_1 : Int), v3 = .string x3_1 ∧ v4 = .int .u64 x4_1 ∧ Aside0 (bellmanref01_Num.l0 kq a0 x3_1 x4_1 = some r) ∧ Aside0 (kq ≤ k) ∧ Aside0 (Below w.heap.size w w'))
  case atStart => exact ⟨((⟨#[]⟩ : ByteArray)), (t117), (by first | rfl | (simp; done) | (simp [*]; done)), (by first | rfl | (simp; done) | (simp [*]; done)), H', ⟨Nat.le_refl _⟩, ⟨by repeat (first | (with_reducible first | exact HB.out | apply below_alloc | apply pw_below_drewN | apply below_drew1) | exact HB.out)⟩⟩
  case round =>
    clear H'
    try clear c2
    try clear p2
    obtain ⟨x3_1, x4_1, rfl, rfl, HA, HK1, HB⟩ := hrel
    cases gk with
    | zero => exact absurd HA.out (by simp [bellmanref01_Num.l0])
    | succ k1 =>
      have H := HA.out
      clear HA
      simp only [bellmanref01_Num.l0] at H
      by_cases c3 : x4_1 > 0
      · rw [if_pos c3] at H
        have c3b0 : decide (0 < x4_1) = true := decide_eq_true c3
        clear c3
        obtain ⟨y118, hy118⟩ : ∃ y_ : List Int, y_ = (([(Int.tmod x4_1 256) % 256] : List Int)) := ⟨_, rfl⟩
        replace H : (if (strOfNums y118).size + x3_1.size ≤ 9223372036854775807 then (bellmanref01_Num.l0 k1 a0 ((strOfNums y118) ++ x3_1) (IntKind.u64.wrap (Int.tdiv x4_1 256))) else (none)) = some r := by first | (rw [hy118]; with_reducible exact H) | (have H2_ := (Option.bind_some _ _).symm.trans H; rw [hy118]; with_reducible exact H2_) | (have H2_ := (Option.bind_some _ _).symm.trans H; with_reducible exact H2_) | with_reducible exact H | (rw [hy118]; exact H) | exact H
        have Ny118 := Aside0.mk hy118
        clear hy118
        by_cases c4 : (strOfNums y118).size + x3_1.size ≤ 9223372036854775807
        · rw [if_pos c4] at H
          have c4b0 := eq_true c4
          have c4b1 : decide ((strOfNums y118).size + x3_1.size ≤ 9223372036854775807) = true := decide_eq_true c4
          try have c4b2 : (9223372036854775807 < (strOfNums y118).size + x3_1.size) = False := eq_false (Nat.not_lt.2 c4)
          have H' := Aside0.mk H
          clear H
          go_wp2_with (first | ((with_reducible refine gate_dst (N := 15) rfl ?_); refine Kd.R_lit (Kd.int .u8) _ 5 ?hg (N := 15) ?hd (xs := ([(Int.tmod x4_1 256) % 256] : List Int)) (inner := [.int .u8 ((Int.tmod x4_1 256) % 256)]) (ok := fun _ => True) (okp := fun _ => True) ?hr ?hp (fun _ hk => hk) trivial (Below.refl _ _) (Nat.le_refl _) (by simp) ?_; (case hd => rfl); (case hg => rfl); (case hr => first | (go_simp; done) | (go_simp; rfl)); (case hp => exact (Reps.one (show Kd.M (Kd.int .u8) _ _ _ ((Int.tmod x4_1 256) % 256) [.int .u8 ((Int.tmod x4_1 256) % 256)] from rfl) (Reps.none _ _))); intro v119 w5 ho6 hb hg_ hnew_; clear hg_ hnew_; (first | rw [← Ny118.out] at ho6 | (simp only [Int.reduceToNat] at ho6; rw [← Ny118.out] at ho6)); have n0_ := Aside0.mk (Kd.R_lower ho6 (below_size (by repeat (first | (with_reducible first | exact HB.out | apply below_alloc | apply pw_below_drewN | apply below_drew1) | exact HB.out)))); have n1_ := Aside0.mk (below_step (by repeat (first | (with_reducible first | exact HB.out | apply below_alloc | apply pw_below_drewN | apply below_drew1) | exact HB.out)) hb); clear HB; have HO120 := n0_; have HB := n1_; clear n0_ n1_; clear hb ho6; have hcv7 := own_string (P := Try.prog) Try.underlying41 Try.underlying5 Try.underlying9 (Kd.own_of_R HO120.out)))
          go_roundg k1
          case measure => have := HK1.out; omega
          case rel => exact ⟨((strOfNums y118) ++ x3_1), (IntKind.u64.wrap (Int.tdiv x4_1 256)), (by first | rfl | (simp; done) | (simp [*]; done)), (by first | rfl | (simp; done) | (simp [*]; done)), H', ⟨by have := HK1.out; omega⟩, ⟨by repeat (first | (with_reducible first | exact HB.out | apply below_alloc | apply pw_below_drewN | apply below_drew1) | exact HB.out)⟩⟩
        · rw [if_neg c4] at H
          exact absurd H (by simp)
      · rw [if_neg c3] at H
        have c3b0 : decide (0 < x4_1) = false := decide_eq_false c3
        clear c3
        by_cases c8 : a0 < 0
        · rw [if_pos c8] at H
          have c8b0 : decide (a0 < 0) = true := decide_eq_true c8
          clear c8
          obtain ⟨y121, hy121⟩ : ∃ y_ : List Int, y_ = (([((((x3_1.size : Int)) % 256) + 128) % 256] : List Int)) := ⟨_, rfl⟩
          replace H : (if (strOfNums y121).size + x3_1.size ≤ 9223372036854775807 then (some ((strOfNums y121) ++ x3_1)) else (none)) = some r := by first | (rw [hy121]; with_reducible exact H) | (have H2_ := (Option.bind_some _ _).symm.trans H; rw [hy121]; with_reducible exact H2_) | (have H2_ := (Option.bind_some _ _).symm.trans H; with_reducible exact H2_) | with_reducible exact H | (rw [hy121]; exact H) | exact H
          have Ny121 := Aside0.mk hy121
          clear hy121
          by_cases c9 : (strOfNums y121).size + x3_1.size ≤ 9223372036854775807
          · rw [if_pos c9] at H
            have c9b0 := eq_true c9
            have c9b1 : decide ((strOfNums y121).size + x3_1.size ≤ 9223372036854775807) = true := decide_eq_true c9
            try have c9b2 : (9223372036854775807 < (strOfNums y121).size + x3_1.size) = False := eq_false (Nat.not_lt.2 c9)
            obtain rfl := Option.some.inj H
            go_wp2_with (first | ((with_reducible refine gate_dst (N := 27) rfl ?_); refine Kd.R_lit (Kd.int .u8) _ 5 ?hg (N := 27) ?hd (xs := ([((((x3_1.size : Int)) % 256) + 128) % 256] : List Int)) (inner := [.int .u8 (((((x3_1.size : Int)) % 256) + 128) % 256)]) (ok := fun _ => True) (okp := fun _ => True) ?hr ?hp (fun _ hk => hk) trivial (Below.refl _ _) (Nat.le_refl _) (by simp) ?_; (case hd => rfl); (case hg => rfl); (case hr => first | (go_simp; done) | (go_simp; rfl)); (case hp => exact (Reps.one (show Kd.M (Kd.int .u8) _ _ _ (((((x3_1.size : Int)) % 256) + 128) % 256) [.int .u8 (((((x3_1.size : Int)) % 256) + 128) % 256)] from rfl) (Reps.none _ _))); intro v122 w10 ho11 hb hg_ hnew_; clear hg_ hnew_; (first | rw [← Ny121.out] at ho11 | (simp only [Int.reduceToNat] at ho11; rw [← Ny121.out] at ho11)); have n0_ := Aside0.mk (Kd.R_lower ho11 (below_size (by repeat (first | (with_reducible first | exact HB.out | apply below_alloc | apply pw_below_drewN | apply below_drew1) | exact HB.out)))); have n1_ := Aside0.mk (below_step (by repeat (first | (with_reducible first | exact HB.out | apply below_alloc | apply pw_below_drewN | apply below_drew1) | exact HB.out)) hb); clear HB; have HO123 := n0_; have HB := n1_; clear n0_ n1_; clear hb ho11; have hcv12 := own_string (P := Try.prog) Try.underlying41 Try.underlying5 Try.underlying9 (Kd.own_of_R HO123.out)))
            go_ret
            exact ⟨by first | rfl | (simp [errW_none, errW_some] <;> rfl) | (simp [*, errW_none, errW_some] <;> rfl), by repeat (first | (with_reducible first | exact HB.out | apply below_alloc | apply pw_below_drewN | apply below_drew1) | exact HB.out)⟩
          · rw [if_neg c9] at H
            exact absurd H (by simp)
        · rw [if_neg c8] at H
          have c8b0 : decide (a0 < 0) = false := decide_eq_false c8
          clear c8
          obtain ⟨y124, hy124⟩ : ∃ y_ : List Int, y_ = (([((x3_1.size : Int)) % 256] : List Int)) := ⟨_, rfl⟩
          replace H : (if (strOfNums y124).size + x3_1.size ≤ 9223372036854775807 then (some ((strOfNums y124) ++ x3_1)) else (none)) = some r := by first | (rw [hy124]; with_reducible exact H) | (have H2_ := (Option.bind_some _ _).symm.trans H; rw [hy124]; with_reducible exact H2_) | (have H2_ := (Option.bind_some _ _).symm.trans H; with_reducible exact H2_) | with_reducible exact H | (rw [hy124]; exact H) | exact H
          have Ny124 := Aside0.mk hy124
          clear hy124
          by_cases c13 : (strOfNums y124).size + x3_1.size ≤ 9223372036854775807
          · rw [if_pos c13] at H
            have c13b0 := eq_true c13
            have c13b1 : decide ((strOfNums y124).size + x3_1.size ≤ 9223372036854775807) = true := decide_eq_true c13
            try have c13b2 : (9223372036854775807 < (strOfNums y124).size + x3_1.size) = False := eq_false (Nat.not_lt.2 c13)
            obtain rfl := Option.some.inj H
            go_wp2_with (first | ((with_reducible refine gate_dst (N := 27) rfl ?_); refine Kd.R_lit (Kd.int .u8) _ 5 ?hg (N := 27) ?hd (xs := ([((x3_1.size : Int)) % 256] : List Int)) (inner := [.int .u8 (((x3_1.size : Int)) % 256)]) (ok := fun _ => True) (okp := fun _ => True) ?hr ?hp (fun _ hk => hk) trivial (Below.refl _ _) (Nat.le_refl _) (by simp) ?_; (case hd => rfl); (case hg => rfl); (case hr => first | (go_simp; done) | (go_simp; rfl)); (case hp => exact (Reps.one (show Kd.M (Kd.int .u8) _ _ _ (((x3_1.size : Int)) % 256) [.int .u8 (((x3_1.size : Int)) % 256)] from rfl) (Reps.none _ _))); intro v125 w14 ho15 hb hg_ hnew_; clear hg_ hnew_; (first | rw [← Ny124.out] at ho15 | (simp only [Int.reduceToNat] at ho15; rw [← Ny124.out] at ho15)); have n0_ := Aside0.mk (Kd.R_lower ho15 (below_size (by repeat (first | (with_reducible first | exact HB.out | apply below_alloc | apply pw_below_drewN | apply below_drew1) | exact HB.out)))); have n1_ := Aside0.mk (below_step (by repeat (first | (with_reducible first | exact HB.out | apply below_alloc | apply pw_below_drewN | apply below_drew1) | exact HB.out)) hb); clear HB; have HO126 := n0_; have HB := n1_; clear n0_ n1_; clear hb ho15; have hcv16 := own_string (P := Try.prog) Try.underlying41 Try.underlying5 Try.underlying9 (Kd.own_of_R HO126.out)))
            go_ret
            exact ⟨by first | rfl | (simp [errW_none, errW_some] <;> rfl) | (simp [*, errW_none, errW_some] <;> rfl), by repeat (first | (with_reducible first | exact HB.out | apply below_alloc | apply pw_below_drewN | apply below_drew1) | exact HB.out)⟩
          · rw [if_neg c13] at H
            exact absurd H (by simp)

/-! ### bellmanref01_Nums: function 37 -/
def bellmanref01_Nums.l0 : Nat → ByteArray → List Int → Int → Int → Option (ByteArray × Int)
  | 0, _, _, _, _ => none
  | k + 1, x4, x13, x14, x15 => if x15 < x14 then (if 0 ≤ x15 then (if x15 < (x13.length : Int) then ((bellmanref01_Num.f k (rd x13 x15)).bind fun t129 => (if x4.size + t129.size ≤ 9223372036854775807 then (bellmanref01_Nums.l0 k (x4 ++ t129) x13 x14 (wrap64 (x15 + 1))) else (none))) else (none)) else (none)) else (some (x4, 0))
def bellmanref01_Nums.f (k : Nat) (l0 : List Int) : Option (ByteArray × Int) := if (l0.length : Int) > 1024 then (some ((⟨#[]⟩ : ByteArray), 12)) else ((bellmanref01_Num.f k (l0.length : Int)).bind fun t127 => (bellmanref01_Nums.l0 k t127 l0 (l0.length : Int) 0))
theorem bellmanref01_Nums.mono_l : ∀ k, (∀ y0 y1 y2 y3, LeO (bellmanref01_Nums.l0 k y0 y1 y2 y3) (bellmanref01_Nums.l0 (k + 1) y0 y1 y2 y3))
  | 0 => fun _ _ _ _ r h => by simp [bellmanref01_Nums.l0] at h
  | k + 1 => by
    have ih0 := bellmanref01_Nums.mono_l k
    · intro y0 y1 y2 y3
      unfold bellmanref01_Nums.l0
      repeat' first
      | (with_reducible exact ih0 _ _ _ _)
      | (with_reducible exact bellmanref01_Num.mono _ _)
      | (with_reducible exact LeO.refl _)
      | (with_reducible exact LeO.none _)
      | (with_reducible refine LeO.ite ?_ ?_)
      | (with_reducible refine LeO.bind ?_ (fun _ => ?_))
      | exact ih0 _ _ _ _
      | exact bellmanref01_Num.mono _ _
      | exact LeO.none _
      | refine LeO.ite ?_ ?_
      | refine LeO.bind ?_ (fun _ => ?_)
theorem bellmanref01_Nums.mono : ∀ a0 k, LeO (bellmanref01_Nums.f k a0) (bellmanref01_Nums.f (k + 1) a0) := by
  intro a0 k
  have ih0 := bellmanref01_Nums.mono_l k
  unfold bellmanref01_Nums.f
  repeat' first
      | (with_reducible exact ih0 _ _ _ _)
      | (with_reducible exact bellmanref01_Num.mono _ _)
      | (with_reducible exact LeO.refl _)
      | (with_reducible exact LeO.none _)
      | (with_reducible refine LeO.ite ?_ ?_)
      | (with_reducible refine LeO.bind ?_ (fun _ => ?_))
      | exact ih0 _ _ _ _
      | exact bellmanref01_Num.mono _ _
      | exact LeO.none _
      | refine LeO.ite ?_ ?_
      | refine LeO.bind ?_ (fun _ => ?_)
set_option maxHeartbeats 8000000 in
set_option maxRecDepth 100000 in
theorem bellmanref01_Nums.calls (k : Nat) (A0 : Option Addr) (c0 : Nat) (l0 : List Int) (r1 : ByteArray) (r2 : Int) (w : World) (hr0 : Kd.C (Kd.int .i64) w A0 l0.length l0) (hc0 : l0.length ≤ c0) (h : bellmanref01_Nums.f k l0 = some (r1, r2)) :
    Calls Try.prog 37 #[.slice A0 l0.length c0] w fun e w' => e = .returned (.tuple #[.string r1, .int .i64 r2]) ∧ Below w.heap.size w w' := by
  have HR0 := Aside0.mk hr0
  have HC0 := Aside0.mk hc0
  clear hr0 hc0
  have HB := Aside0.mk (Below.refl w.heap.size w)
  have H : (if (l0.length : Int) > 1024 then (some ((⟨#[]⟩ : ByteArray), 12)) else ((bellmanref01_Num.f k (l0.length : Int)).bind fun t127 => (bellmanref01_Nums.l0 k t127 l0 (l0.length : Int) 0))) = some (r1, r2) := h
  clear h
  by_cases c2 : (l0.length : Int) > 1024
  · rw [if_pos c2] at H
    have c2b0 : decide (1024 < (l0.length : Int)) = true := decide_eq_true c2
    have c2b1 : decide (1024 < l0.length) = true := decide_eq_true (by omega)
    clear c2
    simp only [Option.some.injEq, Prod.mk.injEq] at H
    obtain ⟨rfl, rfl⟩ := H
    go_enter Try.func37, Try.ntmps37
    go_wp2
    go_ret2
    exact ⟨by first | rfl | (simp [errW_none, errW_some] <;> rfl) | (simp [*, errW_none, errW_some] <;> rfl), by repeat (first | (with_reducible first | exact HB.out | apply below_alloc | apply pw_below_drewN | apply below_drew1) | exact HB.out)⟩
  · rw [if_neg c2] at H
    have c2b0 : decide (1024 < (l0.length : Int)) = false := decide_eq_false c2
    have c2b1 : decide (1024 < l0.length) = false := decide_eq_false (by omega)
    clear c2
    replace H := Option.bind_eq_some_iff.mp H
    obtain ⟨t127, A30, H⟩ := H
    replace H : (bellmanref01_Nums.l0 k t127 l0 (l0.length : Int) 0) = some (r1, r2) := H
    have A3 := Aside0.mk A30
    clear A30
    have H' := Aside0.mk H
    clear H
    go_enter Try.func37, Try.ntmps37
    go_wp2_with (first | ((with_reducible refine gate_callee (f := 24) rfl ?_); refine goesL_ (some 12) rfl rfl Try.func24 (by kernel_rfl) rfl #[.int .i64 (l0.length : Int)] rfl (by (try simp only [List.map_toArray, List.map_cons, List.map_nil]); first | done | rfl | (simp only [List.length_drop, List.length_take]; rfl)) ?_; (with_reducible refine (bellmanref01_Num.calls k (l0.length : Int) t127 _ A3.out).mono ?_); rintro e w4 ⟨rfl, hb⟩; refine ⟨_, rfl, ?_⟩; have n0_ := Aside0.mk (below_step (by repeat (first | (with_reducible first | exact HB.out | apply below_alloc | apply pw_below_drewN | apply below_drew1) | exact HB.out)) hb); clear HB; have HB := n0_; clear n0_; (try clear hb); (try clear hb2); (try clear hk); (try clear hi)))
    go_loopg [4, 15] k (fun kq v4 v15 w' => ∃ (x4_1 : ByteArray) (x15_1 : Int), v4 = .string x4_1 ∧ v15 = .int .i64 x15_1 ∧ Aside0 (bellmanref01_Nums.l0 kq x4_1 l0 (l0.length : Int) x15_1 = some (r1, r2)) ∧ Aside0 (kq ≤ k) ∧ Aside0 (Below w.heap.size w w'))
    case atStart => exact ⟨(t127), (0), (by first | rfl | (simp; done) | (simp [*]; done)), (by first | rfl | (simp; done) | (simp [*]; done)), H', ⟨Nat.le_refl _⟩, ⟨by repeat (first | (with_reducible first | exact HB.out | apply below_alloc | apply pw_below_drewN | apply below_drew1) | exact HB.out)⟩⟩
    case round =>
      clear H'
      try clear c2
      try clear c2b0
      try clear c2b1
      try clear p2
      try clear c3
      obtain ⟨x4_1, x15_1, rfl, rfl, HA, HK1, HB⟩ := hrel
      cases gk with
      | zero => exact absurd HA.out (by simp [bellmanref01_Nums.l0])
      | succ k1 =>
        have H := HA.out
        clear HA
        simp only [bellmanref01_Nums.l0] at H
        by_cases c5 : x15_1 < (l0.length : Int)
        · rw [if_pos c5] at H
          have c5b0 : decide (x15_1 < (l0.length : Int)) = true := decide_eq_true c5
          clear c5
          by_cases c6 : 0 ≤ x15_1
          · rw [if_pos c6] at H
            have c6b0 : decide (0 ≤ x15_1) = true := decide_eq_true c6
            clear c6
            by_cases c7 : x15_1 < (l0.length : Int)
            · rw [if_pos c7] at H
              have c7b0 : decide (x15_1 < (l0.length : Int)) = true := decide_eq_true c7
              clear c7
              replace H := Option.bind_eq_some_iff.mp H
              obtain ⟨t129, A80, H⟩ := H
              replace H : (if x4_1.size + t129.size ≤ 9223372036854775807 then (bellmanref01_Nums.l0 k1 (x4_1 ++ t129) l0 (l0.length : Int) (wrap64 (x15_1 + 1))) else (none)) = some (r1, r2) := H
              have A8 := Aside0.mk A80
              clear A80
              by_cases c9 : x4_1.size + t129.size ≤ 9223372036854775807
              · rw [if_pos c9] at H
                have c9b0 := eq_true c9
                have c9b1 : decide (x4_1.size + t129.size ≤ 9223372036854775807) = true := decide_eq_true c9
                try have c9b2 : (9223372036854775807 < x4_1.size + t129.size) = False := eq_false (Nat.not_lt.2 c9)
                have H' := Aside0.mk H
                clear H
                have p128 : 0 ≤ (x15_1 : Int) := of_decide_eq_true (by first | (with_reducible assumption) | assumption)
                have q128 : x15_1 < (l0.length : Int) := of_decide_eq_true (by first | (with_reducible assumption) | assumption)
                obtain ⟨ad128, e128, hx128_0⟩ := Kd.at_int HR0.out x15_1 p128 q128
                cases e128
                replace hx128_0 := (HB.out.cell (World.block_lt_of_cell? w _ hx128_0)).trans hx128_0
                replace p128 := eq_true p128
                replace q128 := eq_true q128
                go_wp2_with (first | ((with_reducible refine gate_callee (f := 24) rfl ?_); refine goesL_ (some 21) rfl rfl Try.func24 (by kernel_rfl) rfl #[.int .i64 (rd l0 x15_1)] rfl (by (try simp only [List.map_toArray, List.map_cons, List.map_nil]); first | done | rfl | (simp only [List.length_drop, List.length_take]; rfl)) ?_; (with_reducible refine (bellmanref01_Num.calls k1 (rd l0 x15_1) t129 _ A8.out).mono ?_); rintro e w10 ⟨rfl, hb⟩; refine ⟨_, rfl, ?_⟩; have n0_ := Aside0.mk (below_step (by repeat (first | (with_reducible first | exact HB.out | apply below_alloc | apply pw_below_drewN | apply below_drew1) | exact HB.out)) hb); clear HB; have HB := n0_; clear n0_; (try clear hb); (try clear hb2); (try clear hk); (try clear hi)))
                go_roundg k1
                case measure => have := HK1.out; omega
                case rel => exact ⟨(x4_1 ++ t129), (wrap64 (x15_1 + 1)), (by first | rfl | (simp; done) | (simp [*]; done)), (by first | rfl | (simp; done) | (simp [*]; done)), H', ⟨by have := HK1.out; omega⟩, ⟨by repeat (first | (with_reducible first | exact HB.out | apply below_alloc | apply pw_below_drewN | apply below_drew1) | exact HB.out)⟩⟩
              · rw [if_neg c9] at H
                exact absurd H (by simp)
            · rw [if_neg c7] at H
              exact absurd H (by simp)
          · rw [if_neg c6] at H
            exact absurd H (by simp)
        · rw [if_neg c5] at H
          have c5b0 : decide (x15_1 < (l0.length : Int)) = false := decide_eq_false c5
          clear c5
          simp only [Option.some.injEq, Prod.mk.injEq] at H
          obtain ⟨rfl, rfl⟩ := H
          go_wp2
          go_ret2
          exact ⟨by first | rfl | (simp [errW_none, errW_some] <;> rfl) | (simp [*, errW_none, errW_some] <;> rfl), by repeat (first | (with_reducible first | exact HB.out | apply below_alloc | apply pw_below_drewN | apply below_drew1) | exact HB.out)⟩

/-! ### wire_List_int64: function 71, by hand -/
def wire_ListN.l0 : Nat → Int → ByteArray → Int → List Int → Int → Option (List Int × ByteArray × Int)
  | 0, _, _, _, _, _ => none
  | k + 1, n, s, why, out, i => if i < n then ((wire_Reader_Num.f s why).bind fun t => if t.2.2 = 0 then (if out.length < 17592186044416 then wire_ListN.l0 k n t.2.1 t.2.2 (out ++ [t.1]) (wrap64 (i + 1)) else none) else some ([], t.2.1, t.2.2)) else some (out, s, why)
def wire_ListN.f (k : Nat) (s : ByteArray) (why : Int) : Option (List Int × ByteArray × Int) := (wire_Reader_Many.f s why 1024).bind fun t => wire_ListN.l0 k t.1 t.2.1 t.2.2 [] 0
theorem wire_ListN.mono_l : ∀ (k : Nat) n s why out i, LeO (wire_ListN.l0 k n s why out i) (wire_ListN.l0 (k + 1) n s why out i)
  | 0, _, _, _, _, _ => fun r h => by simp [wire_ListN.l0] at h
  | k + 1, n, s, why, out, i => by
    rw [wire_ListN.l0, wire_ListN.l0]
    refine LeO.ite (LeO.bind (LeO.refl _) (fun t => LeO.ite (LeO.ite (wire_ListN.mono_l k _ _ _ _ _) (LeO.refl _)) (LeO.refl _))) (LeO.refl _)
theorem wire_ListN.mono (s : ByteArray) (why : Int) (k : Nat) : LeO (wire_ListN.f k s why) (wire_ListN.f (k + 1) s why) := LeO.bind (LeO.refl _) (fun t => wire_ListN.mono_l k _ _ _ _ _)
set_option maxHeartbeats 400000 in
set_option maxRecDepth 100000 in
theorem wire_ListN.calls (k : Nat) (g : Nat) (s : ByteArray) (why : Int) (r1 : List Int) (r2 : ByteArray) (r3 : Int) (w0 w : World) (hI : IsS73 w0 w g s why) (hB : Below w0.heap.size w0 w) (h : wire_ListN.f k s why = some (r1, r2, r3)) :
    Calls Try.prog 71 #[.pointer (some ⟨g, 0, none⟩), .func (.func 72) #[.pointer (some ⟨g, 0, none⟩)] #[]] w fun e w' => ∃ v0_ : Value, e = .returned v0_ ∧ Kd.R (Kd.int .i64) 2 w' w0.heap.size (fun k_ => k_ ≠ g) v0_ r1 ∧ IsS73 w0 w' g r2 r3 ∧ Below w0.heap.size w0 w' := by
  have H : ((wire_Reader_Many.f s why 1024).bind fun t => wire_ListN.l0 k t.1 t.2.1 t.2.2 [] 0) = some (r1, r2, r3) := h
  clear h
  replace H := Option.bind_eq_some_iff.mp H
  obtain ⟨⟨n, s1, y1⟩, A1, H⟩ := H
  replace A1 := Lib.hid A1
  have HH := Lib.hid H; clear H
  have HI := Lib.hid hI; have HB := Lib.hid hB; clear hI hB
  have hu := Try.underlying73
  go_enter Try.func71, Try.ntmps71
  go_wp2_with (go_at_call 80; refine (wire_Reader_Many.calls g s why 1024 n s1 y1 w0 _ HI.out HB.out A1.out).mono ?_; rintro e w1 ⟨rfl, hi1, hb1, hk1⟩)
  have HI1 := Lib.hid hi1; have HB1 := Lib.hid hb1; clear hi1 hb1 hk1 HI HB
  go_loopg [5, 9] k (fun kq v5 v9 w' => ∃ (s2 : ByteArray) (y2 : Int) (out : List Int) (i : Int), v9 = .int .i64 i ∧ Hid (wire_ListN.l0 kq n s2 y2 out i = some (r1, r2, r3)) ∧ Hid (kq ≤ k) ∧ Hid (Kd.R (Kd.int .i64) 2 w' w0.heap.size (fun k_ => k_ ≠ g) v5 out) ∧ Hid (IsS73 w0 w' g s2 y2) ∧ Hid (Below w0.heap.size w0 w'))
  case atStart => exact ⟨s1, y1, [], 0, rfl, HH, Lib.hid (Nat.le_refl _), Lib.hid (Kd.R_nil _ _ _ _ _), HI1, HB1⟩
  case round =>
    clear HH HI1 HB1
    obtain ⟨s2, y2, out, i, rfl, HA, HK, HO, HI, HB⟩ := hrel
    cases gk with
    | zero => exact absurd HA.out (by simp [wire_ListN.l0])
    | succ k1 =>
      have H := HA.out
      clear HA
      simp only [wire_ListN.l0] at H
      by_cases c1 : i < n
      · rw [if_pos c1] at H
        have c1b : decide (i < n) = true := decide_eq_true c1
        replace H := Option.bind_eq_some_iff.mp H
        obtain ⟨⟨x, s3, y3⟩, A2, H⟩ := H
        replace A2 := Lib.hid A2
        by_cases c2 : y3 = 0
        · simp only at H
          rw [if_pos c2] at H
          have c2b : (y3 != 0) = false := bne_eq_false_iff_eq.mpr c2
          by_cases c3 : out.length < 17592186044416
          · rw [if_pos c3] at H
            subst c2
            have HH := Lib.hid H; clear H
            go_wp2_with (first | (go_at_call 72; refine (wire_Reader_Num.calls g s2 y2 x s3 0 w0 _ HI.out HB.out A2.out).mono ?_; rintro e w3 ⟨rfl, hi3, hb3, hk3⟩; have HI3 := Lib.hid hi3; have HB3 := Lib.hid hb3; have HO3 := Lib.hid (Kd.R_keep HO.out hk3 (fun _ h => h)); have hc3 := cellS73_1 hi3.1; clear hi3 hb3 hk3 HI HB HO) | ((with_reducible refine gate_builtin (b := .append) (xs := #[.tmp 18, .tmp 20]) rfl ?_); at_builtin; refine Kd.R_append (Kd.int .i64) (w0 := w0) w0.heap.size rfl (.tmp 18) (.tmp 20) 43 2 (.int .i64 0) 8 rfl Try.underlying43 info2 rfl (by decide) (by omega) u5 out x [.int .i64 x] (fun k_ => k_ ≠ g) (fun _ => False) rfl rfl ?aP (fun _ hk => hk.elim) ?aF ?aO ?aB ?aS ?aL ?_; (case aP => exact rfl); (case aB => exact HB3.out); (case aF => exact (fun k_ hk_ => HI3.out.fresh k_ hk_)); (case aO => exact HO3.out); (case aS => exact HB3.out.size); (case aL => omega); intro v9 w9 ho hb hg hat))
            have HI9 := HI3.out.grown hg (HI3.out.own_ne HO3.out (by decide))
            go_roundg k1
            case measure => have := HK.out; omega
            case rel => exact ⟨s3, 0, out ++ [x], wrap64 (i + 1), rfl, HH, Lib.hid (by have := HK.out; omega), Lib.hid ho, Lib.hid HI9, Lib.hid hb⟩
          · rw [if_neg c3] at H; cases H
        · simp only at H
          rw [if_neg c2] at H
          have c2b : (y3 != 0) = true := bne_iff_ne.mpr c2
          simp only [Option.some.injEq, Prod.mk.injEq] at H
          obtain ⟨rfl, rfl, rfl⟩ := H
          go_wp2_with (go_at_call 72; refine (wire_Reader_Num.calls g s2 y2 x s3 y3 w0 _ HI.out HB.out A2.out).mono ?_; rintro e w3 ⟨rfl, hi3, hb3, hk3⟩; have HI3 := Lib.hid hi3; have HB3 := Lib.hid hb3; have HO3 := Lib.hid (Kd.R_keep HO.out hk3 (fun _ h => h)); have hc3 := cellS73_1 hi3.1; clear hi3 hb3 hk3 HI HB HO)
          go_ret
          exact ⟨_, rfl, Kd.R_nil _ _ _ _ _, HI3.out, HB3.out⟩
      · rw [if_neg c1] at H
        have c1b : decide (i < n) = false := decide_eq_false c1
        simp only [Option.some.injEq, Prod.mk.injEq] at H
        obtain ⟨rfl, rfl, rfl⟩ := H
        go_wp2
        go_ret
        exact ⟨_, rfl, HO.out, HI.out, HB.out⟩

/-! ### wire_GetNums: function 38, by hand -/
def wire_GetNums.f (k : Nat) (a0 : ByteArray) : Option (List Int × ByteArray × Int) :=
  (wire_ListN.f k a0 0).bind fun t => (wire_Reader_rest.f t.2.1 t.2.2).bind fun u => some (t.1, u.1, u.2.1)
theorem wire_GetNums.mono : ∀ a0 k, LeO (wire_GetNums.f k a0) (wire_GetNums.f (k + 1) a0) := by
  intro a0 k
  unfold wire_GetNums.f
  exact LeO.bind (wire_ListN.mono _ _ _) (fun _ => LeO.refl _)
set_option maxHeartbeats 400000 in
set_option maxRecDepth 100000 in
theorem wire_GetNums.calls (k : Nat) (a0 : ByteArray) (r1 : List Int) (r2 : ByteArray) (r3 : Int) (w : World) (h : wire_GetNums.f k a0 = some (r1, r2, r3)) :
    Calls Try.prog 38 #[.string a0] w fun e w' => ∃ v0_ : Value, e = .returned (.tuple #[v0_, .string r2, .int .i64 r3]) ∧ Kd.R (Kd.int .i64) 2 w' w.heap.size (fun _ => True) v0_ r1 ∧ Below w.heap.size w w' := by
  unfold wire_GetNums.f at h
  obtain ⟨⟨t, s1, y1⟩, h1, h⟩ := Option.bind_eq_some_iff.mp h
  obtain ⟨⟨q, y2, s3, y3⟩, h2, h⟩ := Option.bind_eq_some_iff.mp h
  simp only [Option.some.injEq, Prod.mk.injEq] at h
  obtain ⟨rfl, rfl, rfl⟩ := h
  have H1 := Lib.hid h1
  have H2 := Lib.hid h2
  clear h1 h2
  have hI := IsS73.new w w a0 0 (Below.refl _ _)
  have HI := Lib.hid hI; clear hI
  have hu := Try.underlying73
  have hmf : ∀ (fn : Fn) (first cap : Array Value) (w : World), (Instr.makeFunc fn first cap).run Try.prog w = .ok (.func fn first cap) w := fun _ _ _ _ => rfl
  go_enter Try.func38, Try.ntmps38
  go_wp2_with (first
    | (go_at_call 71; refine (wire_ListN.calls k w.heap.size a0 0 _ _ _ w _ HI.out (below_alloc (Below.refl _ _) _) H1.out).mono ?_; rintro e w1 ⟨v1, rfl, ho1, hi1, hb1⟩; have HO1 := Lib.hid ho1; have HI1 := Lib.hid hi1; have HB1 := Lib.hid hb1; clear ho1 hi1 hb1)
    | (go_at_call 63; refine (wire_Reader_rest.calls w.heap.size s1 y1 _ _ _ _ w _ HI1.out HB1.out H2.out).mono ?_; rintro e w2 ⟨rfl, hi2, hb2, hk2⟩; have HB2 := Lib.hid hb2; have HO2 := Lib.hid (Kd.R_keep HO1.out hk2 (fun _ h => h)); clear hi2 hb2 hk2))
  go_ret3
  exact ⟨_, rfl, Kd.R_mono HO2.out (fun _ _ => trivial), HB2.out⟩


end Go.Proofs.Ytgcilfpoblijnaa.XL
