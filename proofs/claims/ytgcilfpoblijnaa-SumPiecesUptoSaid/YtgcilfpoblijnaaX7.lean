-- by px.py, a program of this session, over the kit's printer: functions given by hand stand beside printed ones. Lean checks all of it.
import Derived.Test.YtgcilfpoblijnaaX0
import Derived.Test.YtgcilfpoblijnaaX2
import Derived.Test.YtgcilfpoblijnaaX4
import Derived.Test.YtgcilfpoblijnaaX6
import Derived.Test.YtgcilfpoblijnaaGSum
import Derived.Test.YtgcilfpoblijnaaGSum
namespace Go.Proofs.Ytgcilfpoblijnaa.X
open Go.RowKit Go.Proofs.YtgcilfpoblijnaaW.PrintWords Go.Proofs.YtgcilfpoblijnaaW.PrintLast Go.Proofs.YtgcilfpoblijnaaW.PrintMore
attribute [local go_sem] max2_int min2_int max_two min_two max_three min_three max_four min_four   -- for this text's walks alone
set_option linter.unusedVariables false
set_option linter.unusedSimpArgs false

-- PXIMPORT YtgcilfpoblijnaaGSum
/-! ### sum_halves: function 69, by hand -/
theorem sum_half_tab : ∀ i : Fin 16, sum_half.f 6 (i.val : Int) = some (sum_tb i.val) := by decide +kernel
def sum_arr (k : Nat) : Array Value := ((List.range 16).map fun i => Value.int .u32 (if i < k then sum_tb i else 0)).toArray
theorem sum_arr_set (k : Nat) (hk : k < 16) : (sum_arr k).setIfInBounds k (.int .u32 (sum_tb k)) = sum_arr (k + 1) := by
  apply Array.ext
  · simp [sum_arr]
  · intro i h1 h2
    rw [Array.getElem_setIfInBounds (by simpa using h1)]
    by_cases hi : k = i
    · subst hi; simp [sum_arr]
    · rw [if_neg hi]
      have h3 : (i < k + 1) ↔ (i < k) := by omega
      simp [sum_arr, h3]
theorem sum_arr_cell (k i : Nat) (hi : i < 16) : (sum_arr k)[i]? = some (.int .u32 (if i < k then sum_tb i else 0)) := by simp [sum_arr, hi]
theorem sum_arr16 : sum_arr 16 = #[.int .u32 0, .int .u32 274646895, .int .u32 549293790, .int .u32 820201905, .int .u32 1098587580, .int .u32 1361435347, .int .u32 1640403810, .int .u32 1905808397, .int .u32 2197175160, .int .u32 2460548119, .int .u32 2722870694, .int .u32 2987750089, .int .u32 3280807620, .int .u32 3553878443, .int .u32 3811616794, .int .u32 4084100981] := by rfl
structure sum_Arr (B k : Nat) (w W : World) : Prop where
  below : Below w.heap.size w W
  res : W.heap[w.heap.size]? = some (.cells (sum_arr 0) 82 (0, 0))
  blk : W.heap[w.heap.size + 1]? = some (.cells (sum_arr k) 82 (0, 0))
theorem sum_Arr.step {B k : Nat} {w W : World} (h : sum_Arr B k w W) (hk : k < 16) : sum_Arr B (k + 1) w (W.setCell ⟨w.heap.size + 1, k, none⟩ (.int .u32 (sum_tb k))) :=
  ⟨h.below.setCell (p := ⟨w.heap.size + 1, k, none⟩) (Nat.le_succ _) _, blk_far h.res (by simp) _, by rw [blk_set h.blk k _, sum_arr_set k hk]⟩
theorem sum_Arr.drawn {B k : Nat} {w W W' : World} (h : sum_Arr B k w W) (hd : Drawn0 W W') : sum_Arr B k w W' := by
  obtain ⟨n, rfl⟩ := hd
  exact ⟨pw_below_drewN h.below n, h.res, h.blk⟩
theorem below_setRow_ {B g : Nat} {w0 w : World} (hb : Below B w0 w) (hBg : B ≤ g) (cs : Array Value) : Below B w0 (w.setRow g cs) :=
  ⟨hb.os, hb.tape, hb.output, by simpa using hb.size, fun k hk => (setRow_other w g k cs (by omega)).trans (hb.block k hk)⟩
section
variable {P : Program} {ops : Array Oper} {rest : List Oper} {op : Oper} {a : Act} {w : World} {Q : Exit → Act → World → Prop}
/-- A whole row stored into a variable that is a block. -/
theorem sum_store_row (hgd : op.guard = none) (ty : TypeId) (x y : Operand) (ho : op.op = .store ty x y) (g : Nat) (cur cells : Array Value) (t : TypeId)
    (hx : a.eval x = .pointer (some ⟨g, 0, none⟩)) (hy : a.eval y = .agg cells) (hg : w.heap[g]? = some (.cells cur t (0, 0))) (hsz : cur.size = cells.size)
    (hi : (P.info? ty).map (·.size) = some cells.size) (h1 : ∀ v ∈ cells.toList, v.oneCell' = true)
    (h : wpList P ops Q rest (a.put op.dst undef) (w.setRow g cells)) : wpList P ops Q (op :: rest) a w := by
  refine wpList_plain hgd fun _ hK => ?_
  have hs := run_storeCells_at (P := P) g 0 t cells.toList 0 cur w hg (by simp; omega) h1
  have hcur : (List.take (0 + 0) cur.toList ++ cells.toList ++ List.drop (0 + 0 + cells.toList.length) cur.toList).toArray = cells := by
    rw [List.drop_eq_nil_of_le (by simp; omega)]; simp
  rw [hcur] at hs
  cases hq : P.info? ty with
  | none => simp [hq] at hi
  | some i =>
    have hs2 : cells.size = i.size := by simp [hq] at hi; omega
    unfold Oper.wp execOp
    simp only [ho, hx, hy, Instr.storeAt, Instr.sureAddr, Sem.run_bind, Sem.run_pure, Result.andThen_ok]
    simp [storeVar, sizeOf, typeInfo, hq, Value.cells, hs2, hs]
    exact hK _ _ h
end
set_option maxHeartbeats 400000 in
set_option maxRecDepth 100000 in
theorem sum_halves (w : World) :
    Calls Try.prog 69 #[] w fun e w' => e = .returned (.agg #[.int .u32 0, .int .u32 274646895, .int .u32 549293790, .int .u32 820201905, .int .u32 1098587580, .int .u32 1361435347, .int .u32 1640403810, .int .u32 1905808397, .int .u32 2197175160, .int .u32 2460548119, .int .u32 2722870694, .int .u32 2987750089, .int .u32 3280807620, .int .u32 3553878443, .int .u32 3811616794, .int .u32 4084100981]) ∧ Below w.heap.size w w' := by
  go_enter Try.func69, Try.ntmps69
  go_wp2
  have HA : Hid (sum_Arr 0 0 w ((w.alloc (.cells (sum_arr 0) 82)).alloc (.cells (sum_arr 0) 82))) := Lib.hid ⟨((Below.refl _ _).alloc (Nat.le_refl _) _).alloc (by simp) _, heap_alloc2_old w _ _, heap_alloc2_new w _ _⟩
  go_loopw [3] (fun v3 wr => ∃ k : Nat, k ≤ 16 ∧ v3 = .int .i64 k ∧ Hid (sum_Arr 0 k w wr)) (fun v3 _ => 16 - (intOf v3).toNat)
  case atStart => exact ⟨0, by omega, rfl, HA⟩
  case round =>
    clear HA
    obtain ⟨k, hk, rfl, HA⟩ := hrel
    by_cases hlt : k < 16
    · have hkl : ((k : Int) < 16) = True := by simp; omega
      have hkw : IntKind.u32.wrap (k : Int) = (k : Int) := by rw [IntKind.wrap_u32]; omega
      have hfr := blk_frozen HA.out.blk k
      have hcl := (blk_cell HA.out.blk k).trans (sum_arr_cell k k hlt)
      go_wp2_with (go_at_call 82; refine (sum_half.calls 6 (k : Int) (sum_tb k) _ (sum_half_tab ⟨k, hlt⟩)).mono ?_; rintro e w1 ⟨rfl, hd⟩; have HA1 := Lib.hid (HA.out.drawn hd); clear HA hd hfr hcl; have hfr := blk_frozen HA1.out.blk k; have hcl := (blk_cell HA1.out.blk k).trans (sum_arr_cell k k hlt))
      go_roundw
      case rel => exact ⟨k + 1, by omega, by go_num, Lib.hid (HA1.out.step hlt)⟩
      case measure => simp [intOf]; omega
    · obtain rfl : k = 16 := by omega
      go_wp2_with (first
        | ((with_reducible refine gate_dst (N := 12) rfl ?_); refine wpList_load_row rfl 82 (.tmp 1) rfl (w.heap.size + 1) rfl 82 (sum_arr 16) (0, 0) _ HA.out.blk Try.underlying82 rfl (by kernel_rfl) ?_)
        | (refine sum_store_row rfl 82 (.tmp 0) (.tmp 12) rfl w.heap.size (sum_arr 0) (sum_arr 16) 82 rfl rfl HA.out.res rfl (by kernel_rfl) (by decide) ?_))
      refine bodyPost_ret (results_cell_row rfl _ _ w.heap.size 82 (sum_arr 16) (0, 0) _ rfl (setRow_heap wr _ _ _ _ _ HA.out.res) Try.underlying82 rfl (by kernel_rfl)) rfl ?_
      exact ⟨by rw [sum_arr16], below_setRow_ HA.out.below (Nat.le_refl _) _⟩

-- PXIMPORT YtgcilfpoblijnaaGSum
/-! ### sum_register_add: function 70, by hand -/
def sum_reg (n : Int) : Array Value := #[.int .u32 n, .int .u32 0, .int .u32 274646895, .int .u32 549293790, .int .u32 820201905, .int .u32 1098587580, .int .u32 1361435347, .int .u32 1640403810, .int .u32 1905808397, .int .u32 2197175160, .int .u32 2460548119, .int .u32 2722870694, .int .u32 2987750089, .int .u32 3280807620, .int .u32 3553878443, .int .u32 3811616794, .int .u32 4084100981]
def sum_half4 (a : Int) : Int := Go.bits .xor .u32 (a / 16) (sum_tb (Go.bits .and .u32 a 15))
def sum_step (n c : Int) : Int := sum_half4 (sum_half4 (Go.bits .xor .u32 n c))
def sum_to (s : ByteArray) (n : Int) : Nat → Int
  | 0 => n
  | k + 1 => sum_step (sum_to s n k) (bt s k)
theorem sum_reg_cell (n : Int) (i : Nat) (hi : i < 16) : (sum_reg n)[1 + i]? = some (.int .u32 (sum_tb i)) := by
  have : ∀ i : Fin 16, (sum_reg n)[1 + i.val]? = some (.int .u32 (sum_tb i.val)) := by
    intro i
    obtain ⟨i, h⟩ := i
    simp only
    rcases i with _ | _ | _ | _ | _ | _ | _ | _ | _ | _ | _ | _ | _ | _ | _ | _ | i
    all_goals first | rfl | omega
  exact this ⟨i, hi⟩
theorem sum_reg_set (n m : Int) : (sum_reg n).setIfInBounds 0 (.int .u32 m) = sum_reg m := rfl
/-- The block of a sum that is not done. -/
def sum_Reg (g : Nat) (n : Int) (W : World) : Prop := W.heap[g]? = some (.cells (sum_reg n) 85 (0, 0))
theorem sum_Reg.cell0 {g : Nat} {n : Int} {W : World} (h : sum_Reg g n W) : W.cell? ⟨g, 0, none⟩ = some (.int .u32 n) := (blk_cell h 0).trans rfl
theorem sum_Reg.cellT {g : Nat} {n : Int} {W : World} (h : sum_Reg g n W) (i : Nat) (hi : i < 16) : W.cell? ⟨g, 1 + i, none⟩ = some (.int .u32 (sum_tb i)) := (blk_cell h (1 + i)).trans (sum_reg_cell n i hi)
theorem sum_Reg.frozen {g : Nat} {n : Int} {W : World} (h : sum_Reg g n W) (i : Nat) : W.frozen? ⟨g, i, none⟩ = false := blk_frozen h i
theorem sum_Reg.set {g : Nat} {n : Int} {W : World} (h : sum_Reg g n W) (m : Int) : sum_Reg g m (W.setCell ⟨g, 0, none⟩ (.int .u32 m)) := by
  unfold sum_Reg at h ⊢
  rw [blk_set h 0 _, sum_reg_set]
theorem sum_grown_set {w W : World} {g : Nat} (h : w.grownBy W (some g)) (v : Value) : w.grownBy (W.setCell ⟨g, 0, none⟩ v) (some g) := by
  refine ⟨h.os, h.tape, h.output, by simpa [World.setCell] using h.size, fun i hi hne => ?_⟩
  rw [Below.heap_setCell W ⟨g, 0, none⟩ v i (fun e => hne (by rw [e]))]
  exact h.block i hi hne
theorem sum_grown_drew {w W : World} {g : Nat} (h : w.grownBy W (some g)) : w.grownBy W.drew (some g) := ⟨h.os, h.tape, h.output, h.size, h.block⟩
theorem sum_Reg.drew {g : Nat} {n : Int} {W : World} (h : sum_Reg g n W) : sum_Reg g n W.drew := h
theorem sum_and15 (a : Int) : ∃ j : Nat, j < 16 ∧ bits .and .u32 a 15 = (j : Int) := by
  refine ⟨(BitVec.ofInt 32 a &&& BitVec.ofInt 32 15).toNat, ?_, ?_⟩
  · rw [BitVec.toNat_and]
    have : (BitVec.ofInt 32 15).toNat = 15 := by decide
    rw [this]
    exact Nat.lt_of_le_of_lt Nat.and_le_right (by decide)
  · have h : (BitVec.ofInt 32 a &&& BitVec.ofInt 32 15).toNat < 4294967296 := (BitVec.ofInt 32 a &&& BitVec.ofInt 32 15).isLt
    show IntKind.u32.wrap (((BitVec.ofInt 32 a &&& BitVec.ofInt 32 15).toNat : Nat) : Int) = _
    rw [IntKind.wrap_u32]
    omega
set_option maxHeartbeats 400000 in
set_option maxRecDepth 100000 in
theorem sum_add (g : Nat) (n : Int) (s : ByteArray) (w : World) (hI : sum_Reg g n w) (hs : s.size ≤ 9223372036854775806) :
    Calls Try.prog 70 #[.pointer (some ⟨g, 0, none⟩), .string s] w fun e w' => e = .returned (.tuple #[]) ∧ sum_Reg g (sum_to s n s.size) w' ∧ w.grownBy w' (some g) := by
  have HI := Lib.hid hI; clear hI
  have HG := Lib.hid (World.grownBy.refl w (some g))
  go_enter Try.func70, Try.ntmps70
  go_wp2
  go_loopw [7] (fun v7 wr => ∃ k : Nat, k ≤ s.size ∧ v7 = .int .i64 k ∧ Hid (sum_Reg g (sum_to s n k) wr) ∧ Hid (w.grownBy wr (some g))) (fun v7 _ => s.size - (intOf v7).toNat)
  case atStart => exact ⟨0, by omega, rfl, HI, HG⟩
  case round =>
    clear HI HG
    obtain ⟨k, hk, rfl, HI, HG⟩ := hrel
    by_cases hlt : k < s.size
    · have hc := HI.out.cell0
      have hf := HI.out.frozen 0
      have hx : ∀ h : k < s.size, ((s[k]'h).toNat : Int) = bt s (k : Int) := fun h => by have := bt_at s (k : Int); simp only [Int.toNat_natCast] at this; exact this h
      have hx2 : (k : Int) < (s.size : Int) := by omega
      have hb := bt_range s (k : Int)
      have hbw : IntKind.u32.wrap (bt s (k : Int)) = bt s (k : Int) := by rw [IntKind.wrap_u32]; omega
      obtain ⟨a, ha⟩ : ∃ a, bits .xor .u32 (sum_to s n k) (bt s (k : Int)) = a := ⟨_, rfl⟩
      go_wp2
      go_still_tail 11, (by kernel_rfl)
      change wpList _ _ _ _ _ wr.drew
      have HI1 := Lib.hid HI.out.drew
      have HG1 := Lib.hid (sum_grown_drew HG.out)
      clear HI HG hc hf
      generalize wr.drew = W1 at HI1 HG1 ⊢
      have hf := HI1.out.frozen 0
      have hc := HI1.out.cell0
      go_wp2
      have HI2 := Lib.hid (HI1.out.set a)
      have HG2 := Lib.hid (sum_grown_set HG1.out (.int .u32 a))
      clear HI1 HG1 hf hc
      generalize W1.setCell ⟨g, 0, none⟩ (.int .u32 a) = W2 at HI2 HG2 ⊢
      have hc := HI2.out.cell0
      have hf := HI2.out.frozen 0
      obtain ⟨j1, hj161, hj1⟩ := sum_and15 a
      have hct := HI2.out.cellT j1 hj161
      have hjl : ((j1 : Int) < 16) = True := by simp; omega
      obtain ⟨b, hb⟩ : ∃ z_, bits .xor .u32 (a / 16) (sum_tb j1) = z_ := ⟨_, rfl⟩
      have HB1 := Lib.hid (show sum_half4 a = b by unfold sum_half4; rw [hj1, hb])
      go_still_tail 19, (by kernel_rfl)
      change wpList _ _ _ _ _ W2.drew
      have HI3 := Lib.hid HI2.out.drew
      have HG3 := Lib.hid (sum_grown_drew HG2.out)
      clear HI2 HG2 hc hf hct hjl
      generalize W2.drew = W3 at HI3 HG3 ⊢
      have hf := HI3.out.frozen 0
      have hc := HI3.out.cell0
      go_wp2
      have HI4 := Lib.hid (HI3.out.set b)
      have HG4 := Lib.hid (sum_grown_set HG3.out (.int .u32 b))
      clear HI3 HG3 hf hc
      generalize W3.setCell ⟨g, 0, none⟩ (.int .u32 b) = W4 at HI4 HG4 ⊢
      have hc := HI4.out.cell0
      have hf := HI4.out.frozen 0
      obtain ⟨j2, hj162, hj2⟩ := sum_and15 b
      have hct := HI4.out.cellT j2 hj162
      have hjl : ((j2 : Int) < 16) = True := by simp; omega
      obtain ⟨c, hc⟩ : ∃ z_, bits .xor .u32 (b / 16) (sum_tb j2) = z_ := ⟨_, rfl⟩
      have HB2 := Lib.hid (show sum_half4 b = c by unfold sum_half4; rw [hj2, hc])
      go_still_tail 19, (by kernel_rfl)
      change wpList _ _ _ _ _ W4.drew
      have HI3 := Lib.hid HI4.out.drew
      have HG3 := Lib.hid (sum_grown_drew HG4.out)
      clear HI4 HG4 hc hf hct hjl
      generalize W4.drew = W3 at HI3 HG3 ⊢
      have hf := HI3.out.frozen 0
      have hc := HI3.out.cell0
      go_wp2
      have HI5 := Lib.hid (HI3.out.set c)
      have HG5 := Lib.hid (sum_grown_set HG3.out (.int .u32 c))
      clear HI3 HG3 hf hc
      generalize W3.setCell ⟨g, 0, none⟩ (.int .u32 c) = W5 at HI5 HG5 ⊢
      have HT := Lib.hid (show sum_to s n (k + 1) = c by
        show sum_half4 (sum_half4 (Go.bits .xor .u32 (sum_to s n k) (bt s k))) = c
        rw [ha, HB1.out, HB2.out])
      go_roundw
      case rel => exact ⟨k + 1, by omega, by go_num, Lib.hid (by rw [HT.out]; exact HI5.out), HG5⟩
      case measure => simp [intOf]; omega
    · obtain rfl : k = s.size := by omega
      go_wp2
      first | go_end0 | ((try simp only [Exit.inBlock, Exit.then]); refine bodyPost_ret (results_none rfl _ _ _) rfl ?_)
      exact ⟨rfl, HI.out, HG.out⟩

/-! ### sum_On: function 32, by hand -/
def sum_On.f (a0 : Int) (a1 : ByteArray) : Option Int := if a1.size ≤ 9223372036854775806 then some (Go.bits .xor .u32 IntKind.u32.max (sum_to a1 (Go.bits .xor .u32 IntKind.u32.max a0) a1.size)) else none
set_option maxHeartbeats 400000 in
set_option maxRecDepth 100000 in
theorem sum_On.calls (a0 : Int) (a1 : ByteArray) (r : Int) (w : World) (h : sum_On.f a0 a1 = some r) :
    Calls Try.prog 32 #[.int .u32 a0, .string a1] w fun e w' => e = .returned (.int .u32 r) ∧ Below w.heap.size w w' := by
  unfold sum_On.f at h
  split at h
  rotate_left
  · cases h
  rename_i hs
  obtain rfl := Option.some.inj h
  clear h
  have hsg : IntKind.u32.signed = false := rfl
  obtain ⟨n, hn⟩ : ∃ n, Go.bits .xor .u32 IntKind.u32.max a0 = n := ⟨_, rfl⟩
  rw [hn]
  obtain ⟨m, hm⟩ : ∃ m, sum_to a1 n a1.size = m := ⟨_, rfl⟩
  rw [hm]
  have HM := Lib.hid hm; clear hm
  go_enter Try.func32, Try.ntmps32
  go_wp2_with (first
    | (go_at_call 69; refine (sum_halves _).mono ?_; rintro e w1 ⟨rfl, hb1⟩; have HB1 := Lib.hid hb1; clear hb1)
    | (go_at_call 70; refine (sum_add w1.heap.size n a1 _ (heap_alloc_new w1 _) hs).mono ?_; rintro e w2 ⟨rfl, hr, hg⟩; rw [HM.out] at hr; have HR := Lib.hid hr; have HG := Lib.hid hg; have hc := hr.cell0; clear hr hg))
  go_ret
  refine ⟨rfl, ?_⟩
  exact (HB1.out.alloc HB1.out.size _).grown HG.out (by have := HB1.out.size; simp; omega) (fun k hk => by injection hk with hk; rw [← hk]; exact HB1.out.size)


/-! ### sum_Of: function 30 -/
def sum_Of.f (a0 : ByteArray) : Option (Int) := (sum_On.f 0 a0).bind fun t189 => (some t189)
set_option maxHeartbeats 8000000 in
set_option maxRecDepth 100000 in
theorem sum_Of.calls (a0 : ByteArray) (r : Int) (w : World) (h : sum_Of.f a0 = some r) :
    Calls Try.prog 30 #[.string a0] w fun e w' => e = .returned (.int .u32 r) ∧ Below w.heap.size w w' := by
  have HB := Aside0.mk (Below.refl w.heap.size w)
  have H : ((sum_On.f 0 a0).bind fun t189 => (some t189)) = some r := h
  clear h
  replace H := Option.bind_eq_some_iff.mp H
  obtain ⟨t189, A20, H⟩ := H
  replace H : (some t189) = some r := H
  have A2 := Aside0.mk A20
  clear A20
  obtain rfl := Option.some.inj H
  go_enter Try.func30, Try.ntmps30
  go_wp2_with (first | ((with_reducible refine gate_callee (f := 32) rfl ?_); refine goesL_ (some 4) rfl rfl Try.func32 (by kernel_rfl) rfl #[.int .u32 0, .string a0] rfl (by (try simp only [List.map_toArray, List.map_cons, List.map_nil]); first | done | rfl | (simp only [List.length_drop, List.length_take]; rfl)) ?_; (with_reducible refine (sum_On.calls 0 a0 t189 _ A2.out).mono ?_); rintro e w3 ⟨rfl, hb⟩; refine ⟨_, rfl, ?_⟩; have n0_ := Aside0.mk (below_step (by repeat (first | (with_reducible first | exact HB.out | apply below_alloc | apply pw_below_drewN | apply below_drew1) | exact HB.out)) hb); clear HB; have HB := n0_; clear n0_; (try clear hb); (try clear hb2); (try clear hk); (try clear hi)))
  go_ret
  exact ⟨by first | rfl | (simp [errW_none, errW_some] <;> rfl) | (simp [*, errW_none, errW_some] <;> rfl), by repeat (first | (with_reducible first | exact HB.out | apply below_alloc | apply pw_below_drewN | apply below_drew1) | exact HB.out)⟩

/-! ### sum_bytes: function 67 -/
def sum_bytes.f (a0 : Int) : Option (ByteArray) := some (strOfNums (([(a0) % 256, (a0 / 256) % 256, (a0 / 65536) % 256, (a0 / 16777216) % 256] : List Int)))
set_option maxHeartbeats 8000000 in
set_option maxRecDepth 100000 in
theorem sum_bytes.calls (a0 : Int) (r : ByteArray) (w : World) (h : sum_bytes.f a0 = some r) :
    Calls Try.prog 67 #[.int .u32 a0] w fun e w' => e = .returned (.string r) ∧ Below w.heap.size w w' := by
  have HB := Aside0.mk (Below.refl w.heap.size w)
  have H : (some (strOfNums (([(a0) % 256, (a0 / 256) % 256, (a0 / 65536) % 256, (a0 / 16777216) % 256] : List Int)))) = some r := h
  clear h
  obtain ⟨y190, hy190⟩ : ∃ y_ : List Int, y_ = (([(a0) % 256, (a0 / 256) % 256, (a0 / 65536) % 256, (a0 / 16777216) % 256] : List Int)) := ⟨_, rfl⟩
  replace H : (some (strOfNums y190)) = some r := by first | (rw [hy190]; with_reducible exact H) | (have H2_ := (Option.bind_some _ _).symm.trans H; rw [hy190]; with_reducible exact H2_) | (have H2_ := (Option.bind_some _ _).symm.trans H; with_reducible exact H2_) | with_reducible exact H | (rw [hy190]; exact H) | exact H
  have Ny190 := Aside0.mk hy190
  clear hy190
  obtain rfl := Option.some.inj H
  go_enter Try.func67, Try.ntmps67
  go_wp2_with (first | ((with_reducible refine gate_dst (N := 14) rfl ?_); refine Kd.R_lit (Kd.int .u8) _ 5 ?hg (N := 14) ?hd (xs := ([(a0) % 256, (a0 / 256) % 256, (a0 / 65536) % 256, (a0 / 16777216) % 256] : List Int)) (inner := [.int .u8 ((a0) % 256), .int .u8 ((a0 / 256) % 256), .int .u8 ((a0 / 65536) % 256), .int .u8 ((a0 / 16777216) % 256)]) (ok := fun _ => True) (okp := fun _ => True) ?hr ?hp (fun _ hk => hk) trivial (Below.refl _ _) (Nat.le_refl _) (by simp) ?_; (case hd => rfl); (case hg => rfl); (case hr => first | (go_simp; done) | (go_simp; rfl)); (case hp => exact (Reps.one (show Kd.M (Kd.int .u8) _ _ _ ((a0) % 256) [.int .u8 ((a0) % 256)] from rfl) (Reps.one (show Kd.M (Kd.int .u8) _ _ _ ((a0 / 256) % 256) [.int .u8 ((a0 / 256) % 256)] from rfl) (Reps.one (show Kd.M (Kd.int .u8) _ _ _ ((a0 / 65536) % 256) [.int .u8 ((a0 / 65536) % 256)] from rfl) (Reps.one (show Kd.M (Kd.int .u8) _ _ _ ((a0 / 16777216) % 256) [.int .u8 ((a0 / 16777216) % 256)] from rfl) (Reps.none _ _)))))); intro v191 w2 ho3 hb hg_ hnew_; clear hg_ hnew_; (first | rw [← Ny190.out] at ho3 | (simp only [Int.reduceToNat] at ho3; rw [← Ny190.out] at ho3)); have n0_ := Aside0.mk (Kd.R_lower ho3 (below_size (by repeat (first | (with_reducible first | exact HB.out | apply below_alloc | apply pw_below_drewN | apply below_drew1) | exact HB.out)))); have n1_ := Aside0.mk (below_step (by repeat (first | (with_reducible first | exact HB.out | apply below_alloc | apply pw_below_drewN | apply below_drew1) | exact HB.out)) hb); clear HB; have HO192 := n0_; have HB := n1_; clear n0_ n1_; clear hb ho3; have hcv4 := own_string (P := Try.prog) Try.underlying41 Try.underlying5 Try.underlying9 (Kd.own_of_R HO192.out)))
  go_ret
  exact ⟨by first | rfl | (simp [errW_none, errW_some] <;> rfl) | (simp [*, errW_none, errW_some] <;> rfl), by repeat (first | (with_reducible first | exact HB.out | apply below_alloc | apply pw_below_drewN | apply below_drew1) | exact HB.out)⟩

/-! ### sum_Frame: function 25 -/
def sum_Frame.f (a0 : ByteArray) : Option (ByteArray × Int) := if (a0.size : Int) > 32768 then (some ((⟨#[]⟩ : ByteArray), 12)) else ((wire_Num.f (a0.size : Int)).bind fun t193 => ((sum_Of.f a0).bind fun t194 => ((sum_bytes.f t194).bind fun t195 => (if t193.size + t195.size ≤ 9223372036854775807 then (if (t193 ++ t195).size + a0.size ≤ 9223372036854775807 then (some ((t193 ++ t195) ++ a0, 0)) else (none)) else (none)))))
set_option maxHeartbeats 8000000 in
set_option maxRecDepth 100000 in
theorem sum_Frame.calls (a0 : ByteArray) (r1 : ByteArray) (r2 : Int) (w : World) (h : sum_Frame.f a0 = some (r1, r2)) :
    Calls Try.prog 25 #[.string a0] w fun e w' => e = .returned (.tuple #[.string r1, .int .i64 r2]) ∧ Below w.heap.size w w' := by
  have HB := Aside0.mk (Below.refl w.heap.size w)
  have H : (if (a0.size : Int) > 32768 then (some ((⟨#[]⟩ : ByteArray), 12)) else ((wire_Num.f (a0.size : Int)).bind fun t193 => ((sum_Of.f a0).bind fun t194 => ((sum_bytes.f t194).bind fun t195 => (if t193.size + t195.size ≤ 9223372036854775807 then (if (t193 ++ t195).size + a0.size ≤ 9223372036854775807 then (some ((t193 ++ t195) ++ a0, 0)) else (none)) else (none)))))) = some (r1, r2) := h
  clear h
  by_cases c2 : (a0.size : Int) > 32768
  · rw [if_pos c2] at H
    have c2b0 : decide (32768 < (a0.size : Int)) = true := decide_eq_true c2
    have c2b1 : decide (32768 < a0.size) = true := decide_eq_true (by omega)
    clear c2
    simp only [Option.some.injEq, Prod.mk.injEq] at H
    obtain ⟨rfl, rfl⟩ := H
    go_enter Try.func25, Try.ntmps25
    go_wp2
    go_ret2
    exact ⟨by first | rfl | (simp [errW_none, errW_some] <;> rfl) | (simp [*, errW_none, errW_some] <;> rfl), by repeat (first | (with_reducible first | exact HB.out | apply below_alloc | apply pw_below_drewN | apply below_drew1) | exact HB.out)⟩
  · rw [if_neg c2] at H
    have c2b0 : decide (32768 < (a0.size : Int)) = false := decide_eq_false c2
    have c2b1 : decide (32768 < a0.size) = false := decide_eq_false (by omega)
    clear c2
    replace H := Option.bind_eq_some_iff.mp H
    obtain ⟨t193, A30, H⟩ := H
    replace H : ((sum_Of.f a0).bind fun t194 => ((sum_bytes.f t194).bind fun t195 => (if t193.size + t195.size ≤ 9223372036854775807 then (if (t193 ++ t195).size + a0.size ≤ 9223372036854775807 then (some ((t193 ++ t195) ++ a0, 0)) else (none)) else (none)))) = some (r1, r2) := H
    have A3 := Aside0.mk A30
    clear A30
    replace H := Option.bind_eq_some_iff.mp H
    obtain ⟨t194, A40, H⟩ := H
    replace H : ((sum_bytes.f t194).bind fun t195 => (if t193.size + t195.size ≤ 9223372036854775807 then (if (t193 ++ t195).size + a0.size ≤ 9223372036854775807 then (some ((t193 ++ t195) ++ a0, 0)) else (none)) else (none))) = some (r1, r2) := H
    have A4 := Aside0.mk A40
    clear A40
    replace H := Option.bind_eq_some_iff.mp H
    obtain ⟨t195, A50, H⟩ := H
    replace H : (if t193.size + t195.size ≤ 9223372036854775807 then (if (t193 ++ t195).size + a0.size ≤ 9223372036854775807 then (some ((t193 ++ t195) ++ a0, 0)) else (none)) else (none)) = some (r1, r2) := H
    have A5 := Aside0.mk A50
    clear A50
    by_cases c6 : t193.size + t195.size ≤ 9223372036854775807
    · rw [if_pos c6] at H
      have c6b0 := eq_true c6
      have c6b1 : decide (t193.size + t195.size ≤ 9223372036854775807) = true := decide_eq_true c6
      try have c6b2 : (9223372036854775807 < t193.size + t195.size) = False := eq_false (Nat.not_lt.2 c6)
      by_cases c7 : (t193 ++ t195).size + a0.size ≤ 9223372036854775807
      · rw [if_pos c7] at H
        have c7b0 := eq_true c7
        have c7b1 : decide ((t193 ++ t195).size + a0.size ≤ 9223372036854775807) = true := decide_eq_true c7
        try have c7b2 : (9223372036854775807 < (t193 ++ t195).size + a0.size) = False := eq_false (Nat.not_lt.2 c7)
        simp only [Option.some.injEq, Prod.mk.injEq] at H
        obtain ⟨rfl, rfl⟩ := H
        go_enter Try.func25, Try.ntmps25
        go_wp2_with (first | ((with_reducible refine gate_callee (f := 23) rfl ?_); refine goesL_ (some 9) rfl rfl Try.func23 (by kernel_rfl) rfl #[.int .i64 (a0.size : Int)] rfl (by (try simp only [List.map_toArray, List.map_cons, List.map_nil]); first | done | rfl | (simp only [List.length_drop, List.length_take]; rfl)) ?_; (with_reducible refine (wire_Num.calls (a0.size : Int) t193 _ A3.out).mono ?_); rintro e w8 ⟨rfl, hb⟩; refine ⟨_, rfl, ?_⟩; have n0_ := Aside0.mk (below_step (by repeat (first | (with_reducible first | exact HB.out | apply below_alloc | apply pw_below_drewN | apply below_drew1) | exact HB.out)) hb); clear HB; have HB := n0_; clear n0_; (try clear hb); (try clear hb2); (try clear hk); (try clear hi)) | ((with_reducible refine gate_callee (f := 30) rfl ?_); refine goesL_ (some 11) rfl rfl Try.func30 (by kernel_rfl) rfl #[.string a0] rfl (by (try simp only [List.map_toArray, List.map_cons, List.map_nil]); first | done | rfl | (simp only [List.length_drop, List.length_take]; rfl)) ?_; (with_reducible refine (sum_Of.calls a0 t194 _ A4.out).mono ?_); rintro e w9 ⟨rfl, hb⟩; refine ⟨_, rfl, ?_⟩; have n0_ := Aside0.mk (below_step (by repeat (first | (with_reducible first | exact HB.out | apply below_alloc | apply pw_below_drewN | apply below_drew1) | exact HB.out)) hb); clear HB; have HB := n0_; clear n0_; (try clear hb); (try clear hb2); (try clear hk); (try clear hi)) | ((with_reducible refine gate_callee (f := 67) rfl ?_); refine goesL_ (some 12) rfl rfl Try.func67 (by kernel_rfl) rfl #[.int .u32 t194] rfl (by (try simp only [List.map_toArray, List.map_cons, List.map_nil]); first | done | rfl | (simp only [List.length_drop, List.length_take]; rfl)) ?_; (with_reducible refine (sum_bytes.calls t194 t195 _ A5.out).mono ?_); rintro e w10 ⟨rfl, hb⟩; refine ⟨_, rfl, ?_⟩; have n0_ := Aside0.mk (below_step (by repeat (first | (with_reducible first | exact HB.out | apply below_alloc | apply pw_below_drewN | apply below_drew1) | exact HB.out)) hb); clear HB; have HB := n0_; clear n0_; (try clear hb); (try clear hb2); (try clear hk); (try clear hi)))
        go_ret2
        exact ⟨by first | rfl | (simp [errW_none, errW_some] <;> rfl) | (simp [*, errW_none, errW_some] <;> rfl), by repeat (first | (with_reducible first | exact HB.out | apply below_alloc | apply pw_below_drewN | apply below_drew1) | exact HB.out)⟩
      · rw [if_neg c7] at H
        exact absurd H (by simp)
    · rw [if_neg c6] at H
      exact absurd H (by simp)

/-! ### bellmanref02_On: function 33 -/
mutual
def bellmanref02_On.l0 : Nat → ByteArray → Int → Int → Option (Int)
  | 0, _, _, _ => none
  | k + 1, x1, x5, x6 => if x6 < (x1.size : Int) then (bellmanref02_On.l1 k x1 x5 x6 0) else (some ((4294967295 - x5) % 4294967296))
def bellmanref02_On.l1 : Nat → ByteArray → Int → Int → Int → Option (Int)
  | 0, _, _, _, _ => none
  | k + 1, x1, x5, x6, x7 => if x7 < 8 then (if 0 ≤ x6 then (if x6 < (x1.size : Int) then (if 0 ≤ (IntKind.u64.wrap (x7)) then (if (Int.tmod (Go.bits .xor .u32 x5 ((shr .u8 (bt x1 x6) (IntKind.u64.wrap (x7))) % 4294967296)) 2) = 1 then (bellmanref02_On.l1 k x1 (Go.bits .xor .u32 ((Int.tdiv x5 2) % 4294967296) 2197175160) x6 (wrap64 (x7 + 1))) else (bellmanref02_On.l1 k x1 ((Int.tdiv x5 2) % 4294967296) x6 (wrap64 (x7 + 1)))) else (none)) else (none)) else (none)) else (bellmanref02_On.l0 k x1 x5 (wrap64 (x6 + 1)))
end
def bellmanref02_On.f (k : Nat) (a0 : Int) (a1 : ByteArray) : Option (Int) := bellmanref02_On.l0 k a1 ((4294967295 - a0) % 4294967296) 0
theorem bellmanref02_On.mono_l : ∀ k, (∀ y0 y1 y2, LeO (bellmanref02_On.l0 k y0 y1 y2) (bellmanref02_On.l0 (k + 1) y0 y1 y2)) ∧ (∀ y0 y1 y2 y3, LeO (bellmanref02_On.l1 k y0 y1 y2 y3) (bellmanref02_On.l1 (k + 1) y0 y1 y2 y3))
  | 0 => ⟨fun _ _ _ r h => by simp [bellmanref02_On.l0] at h, fun _ _ _ _ r h => by simp [bellmanref02_On.l1] at h⟩
  | k + 1 => by
    obtain ⟨ih0, ih1⟩ := bellmanref02_On.mono_l k
    refine ⟨?_, ?_⟩
    · intro y0 y1 y2
      unfold bellmanref02_On.l0
      repeat' first
      | (with_reducible exact ih0 _ _ _)
      | (with_reducible exact ih1 _ _ _ _)
      | (with_reducible exact LeO.refl _)
      | (with_reducible exact LeO.none _)
      | (with_reducible refine LeO.ite ?_ ?_)
      | (with_reducible refine LeO.bind ?_ (fun _ => ?_))
      | exact ih0 _ _ _
      | exact ih1 _ _ _ _
      | exact LeO.none _
      | refine LeO.ite ?_ ?_
      | refine LeO.bind ?_ (fun _ => ?_)
    · intro y0 y1 y2 y3
      unfold bellmanref02_On.l1
      repeat' first
      | (with_reducible exact ih0 _ _ _)
      | (with_reducible exact ih1 _ _ _ _)
      | (with_reducible exact LeO.refl _)
      | (with_reducible exact LeO.none _)
      | (with_reducible refine LeO.ite ?_ ?_)
      | (with_reducible refine LeO.bind ?_ (fun _ => ?_))
      | exact ih0 _ _ _
      | exact ih1 _ _ _ _
      | exact LeO.none _
      | refine LeO.ite ?_ ?_
      | refine LeO.bind ?_ (fun _ => ?_)
theorem bellmanref02_On.mono : ∀ a0 a1 k, LeO (bellmanref02_On.f k a0 a1) (bellmanref02_On.f (k + 1) a0 a1) := by
  intro a0 a1 k
  obtain ⟨ih0, ih1⟩ := bellmanref02_On.mono_l k
  unfold bellmanref02_On.f
  repeat' first
      | (with_reducible exact ih0 _ _ _)
      | (with_reducible exact ih1 _ _ _ _)
      | (with_reducible exact LeO.refl _)
      | (with_reducible exact LeO.none _)
      | (with_reducible refine LeO.ite ?_ ?_)
      | (with_reducible refine LeO.bind ?_ (fun _ => ?_))
      | exact ih0 _ _ _
      | exact ih1 _ _ _ _
      | exact LeO.none _
      | refine LeO.ite ?_ ?_
      | refine LeO.bind ?_ (fun _ => ?_)
set_option maxHeartbeats 8000000 in
set_option maxRecDepth 100000 in
theorem bellmanref02_On.calls (k : Nat) (a0 : Int) (a1 : ByteArray) (r : Int) (w : World) (h : bellmanref02_On.f k a0 a1 = some r) :
    Calls Try.prog 33 #[.int .u32 a0, .string a1] w fun e w' => e = .returned (.int .u32 r) ∧ Drawn0 w w' := by
  have H : (bellmanref02_On.l0 k a1 ((4294967295 - a0) % 4294967296) 0) = some r := h
  clear h
  have H' := Aside0.mk H
  clear H
  go_enter Try.func33, Try.ntmps33
  go_wp2
  go_loopg [5, 6] k (fun kq v5 v6 w' => ∃ (x5_1 : Int) (x6_1 : Int), v5 = .int .u32 x5_1 ∧ v6 = .int .i64 x6_1 ∧ Aside0 (bellmanref02_On.l0 kq a1 x5_1 x6_1 = some r) ∧ Aside0 (kq ≤ k) ∧ Drawn0 w w')
  case atStart => exact ⟨((4294967295 - a0) % 4294967296), (0), (by first | rfl | (simp; done) | (simp [*]; done)), (by first | rfl | (simp; done) | (simp [*]; done)), H', ⟨Nat.le_refl _⟩, by repeat (first | exact Drawn0.refl _ | apply Drawn0.step)⟩
  case round =>
    clear H'
    try clear p2
    obtain ⟨x5_1, x6_1, rfl, rfl, HA, HK1, ⟨m1, rfl⟩⟩ := hrel
    cases gk with
    | zero => exact absurd HA.out (by simp [bellmanref02_On.l0])
    | succ k1 =>
      have H := HA.out
      clear HA
      simp only [bellmanref02_On.l0] at H
      by_cases c3 : x6_1 < (a1.size : Int)
      · rw [if_pos c3] at H
        have c3b0 : decide (x6_1 < (a1.size : Int)) = true := decide_eq_true c3
        clear c3
        have H' := Aside0.mk H
        clear H
        go_wp2
        go_loopg [5, 7] k1 (fun kq v5 v7 w' => ∃ (x5_2 : Int) (x7_2 : Int), v5 = .int .u32 x5_2 ∧ v7 = .int .i64 x7_2 ∧ Aside0 (bellmanref02_On.l1 kq a1 x5_2 x6_1 x7_2 = some r) ∧ Aside0 (kq ≤ k1) ∧ Drawn0 w w')
        case atStart => exact ⟨(x5_1), (0), (by first | rfl | (simp; done) | (simp [*]; done)), (by first | rfl | (simp; done) | (simp [*]; done)), H', ⟨Nat.le_refl _⟩, by repeat (first | exact Drawn0.refl _ | apply Drawn0.step)⟩
        case round =>
          clear H'
          try clear p2
          try clear c3
          try clear c3b0
          try clear p2
          obtain ⟨x5_2, x7_2, rfl, rfl, HA, HK2, ⟨m2, rfl⟩⟩ := hrel
          cases gk with
          | zero => exact absurd HA.out (by simp [bellmanref02_On.l1])
          | succ k2 =>
            have H := HA.out
            clear HA
            simp only [bellmanref02_On.l1] at H
            by_cases c4 : x7_2 < 8
            · rw [if_pos c4] at H
              have c4b0 : decide (x7_2 < 8) = true := decide_eq_true c4
              clear c4
              by_cases c5 : 0 ≤ x6_1
              · rw [if_pos c5] at H
                have c5b0 : decide (0 ≤ x6_1) = true := decide_eq_true c5
                clear c5
                by_cases c6 : x6_1 < (a1.size : Int)
                · rw [if_pos c6] at H
                  have c6b0 : decide (x6_1 < (a1.size : Int)) = true := decide_eq_true c6
                  clear c6
                  obtain ⟨ji8, hji8⟩ : ∃ j_ : Int, (IntKind.u64.wrap (x7_2)) = j_ := ⟨_, rfl⟩
                  replace H : (if 0 ≤ (ji8) then (if (Int.tmod (Go.bits .xor .u32 x5_2 ((shr .u8 (bt a1 x6_1) (ji8)) % 4294967296)) 2) = 1 then (bellmanref02_On.l1 k2 a1 (Go.bits .xor .u32 ((Int.tdiv x5_2 2) % 4294967296) 2197175160) x6_1 (wrap64 (x7_2 + 1))) else (bellmanref02_On.l1 k2 a1 ((Int.tdiv x5_2 2) % 4294967296) x6_1 (wrap64 (x7_2 + 1)))) else (none)) = some r := by first | (rw [hji8] at H; exact H) | (simp only [hji8] at H ⊢; exact H)
                  by_cases c9 : 0 ≤ (ji8)
                  · rw [if_pos c9] at H
                    have c9b0 := eq_true c9
                    have c9b1 : decide (0 ≤ (ji8)) = true := decide_eq_true c9
                    clear c9
                    obtain ⟨ji10, hji10⟩ : ∃ j_ : Int, (shr .u8 (bt a1 x6_1) (ji8)) = j_ := ⟨_, rfl⟩
                    replace H : (if (Int.tmod (Go.bits .xor .u32 x5_2 ((ji10) % 4294967296)) 2) = 1 then (bellmanref02_On.l1 k2 a1 (Go.bits .xor .u32 ((Int.tdiv x5_2 2) % 4294967296) 2197175160) x6_1 (wrap64 (x7_2 + 1))) else (bellmanref02_On.l1 k2 a1 ((Int.tdiv x5_2 2) % 4294967296) x6_1 (wrap64 (x7_2 + 1)))) = some r := by first | (rw [hji10] at H; exact H) | (simp only [hji10] at H ⊢; exact H)
                    have hji10_ : ((bt a1 x6_1) / 2 ^ min (ji8).toNat 8) = ji10 := hji10
                    have hji10z : (ji8) ≤ 8 → ((bt a1 x6_1) / 2 ^ (ji8).toNat) = ji10 := shr_small hji10
                    by_cases c11 : (Int.tmod (Go.bits .xor .u32 x5_2 ((ji10) % 4294967296)) 2) = 1
                    · rw [if_pos c11] at H
                      have c11b0 : ((Int.tmod (Go.bits .xor .u32 x5_2 ((ji10) % 4294967296)) 2) == 1) = true := beq_iff_eq.mpr c11
                      have c11b1 : ((Int.tmod (Go.bits .xor .u32 x5_2 ((ji10) % 4294967296)) 2) != 1) = false := bne_eq_false_iff_eq.mpr c11
                      clear c11
                      have H' := Aside0.mk H
                      clear H
                      have p7 : 0 ≤ (x6_1 : Int) := of_decide_eq_true (by first | (with_reducible assumption) | assumption)
                      have q7 : x6_1 < (a1.size : Int) := of_decide_eq_true (by first | (with_reducible assumption) | assumption)
                      have hx7 := bt_at a1 x6_1
                      replace p7 := eq_true p7
                      replace q7 := eq_true q7
                      go_wp2
                      go_roundg k2
                      case measure => have := HK1.out; have := HK2.out; omega
                      case rel => exact ⟨(Go.bits .xor .u32 ((Int.tdiv x5_2 2) % 4294967296) 2197175160), (wrap64 (x7_2 + 1)), (by first | rfl | (simp; done) | (simp [*]; done)), (by first | rfl | (simp; done) | (simp [*]; done)), H', ⟨by have := HK1.out; have := HK2.out; omega⟩, by repeat (first | exact Drawn0.refl _ | apply Drawn0.step)⟩
                    · rw [if_neg c11] at H
                      have c11b0 : ((Int.tmod (Go.bits .xor .u32 x5_2 ((ji10) % 4294967296)) 2) == 1) = false := beq_eq_false_iff_ne.mpr c11
                      have c11b1 : ((Int.tmod (Go.bits .xor .u32 x5_2 ((ji10) % 4294967296)) 2) != 1) = true := bne_iff_ne.mpr c11
                      have H' := Aside0.mk H
                      clear H
                      have p7 : 0 ≤ (x6_1 : Int) := of_decide_eq_true (by first | (with_reducible assumption) | assumption)
                      have q7 : x6_1 < (a1.size : Int) := of_decide_eq_true (by first | (with_reducible assumption) | assumption)
                      have hx7 := bt_at a1 x6_1
                      replace p7 := eq_true p7
                      replace q7 := eq_true q7
                      go_wp2
                      go_roundg k2
                      case measure => have := HK1.out; have := HK2.out; omega
                      case rel => exact ⟨((Int.tdiv x5_2 2) % 4294967296), (wrap64 (x7_2 + 1)), (by first | rfl | (simp; done) | (simp [*]; done)), (by first | rfl | (simp; done) | (simp [*]; done)), H', ⟨by have := HK1.out; have := HK2.out; omega⟩, by repeat (first | exact Drawn0.refl _ | apply Drawn0.step)⟩
                  · rw [if_neg c9] at H
                    exact absurd H (by simp)
                · rw [if_neg c6] at H
                  exact absurd H (by simp)
              · rw [if_neg c5] at H
                exact absurd H (by simp)
            · rw [if_neg c4] at H
              have c4b0 : decide (x7_2 < 8) = false := decide_eq_false c4
              clear c4
              have H' := Aside0.mk H
              clear H
              go_wp2
              go_roundg k2
              case measure => have := HK1.out; have := HK2.out; omega
              case rel => exact ⟨(x5_2), (wrap64 (x6_1 + 1)), (by first | rfl | (simp; done) | (simp [*]; done)), (by first | rfl | (simp; done) | (simp [*]; done)), H', ⟨by have := HK1.out; have := HK2.out; omega⟩, by repeat (first | exact Drawn0.refl _ | apply Drawn0.step)⟩
      · rw [if_neg c3] at H
        have c3b0 : decide (x6_1 < (a1.size : Int)) = false := decide_eq_false c3
        clear c3
        obtain rfl := Option.some.inj H
        go_wp2
        go_ret
        exact ⟨by first | rfl | (simp; done) | (simp [*]; done), by repeat (first | exact Drawn0.refl _ | apply Drawn0.step)⟩

/-! ### bellmanref02_Of: function 31 -/
def bellmanref02_Of.f (k : Nat) (a0 : ByteArray) : Option (Int) := (bellmanref02_On.f k 0 a0).bind fun t196 => (some t196)
theorem bellmanref02_Of.mono : ∀ a0 k, LeO (bellmanref02_Of.f k a0) (bellmanref02_Of.f (k + 1) a0) := by
  intro a0 k
  unfold bellmanref02_Of.f
  repeat' first
      | (with_reducible exact bellmanref02_On.mono _ _ _)
      | (with_reducible exact LeO.refl _)
      | (with_reducible exact LeO.none _)
      | (with_reducible refine LeO.ite ?_ ?_)
      | (with_reducible refine LeO.bind ?_ (fun _ => ?_))
      | exact bellmanref02_On.mono _ _ _
      | exact LeO.none _
      | refine LeO.ite ?_ ?_
      | refine LeO.bind ?_ (fun _ => ?_)
set_option maxHeartbeats 8000000 in
set_option maxRecDepth 100000 in
theorem bellmanref02_Of.calls (k : Nat) (a0 : ByteArray) (r : Int) (w : World) (h : bellmanref02_Of.f k a0 = some r) :
    Calls Try.prog 31 #[.string a0] w fun e w' => e = .returned (.int .u32 r) ∧ Drawn0 w w' := by
  have H : ((bellmanref02_On.f k 0 a0).bind fun t196 => (some t196)) = some r := h
  clear h
  replace H := Option.bind_eq_some_iff.mp H
  obtain ⟨t196, A20, H⟩ := H
  replace H : (some t196) = some r := H
  have A2 := Aside0.mk A20
  clear A20
  obtain rfl := Option.some.inj H
  go_enter Try.func31, Try.ntmps31
  go_wp2_with (first | ((with_reducible refine gate_callee (f := 33) rfl ?_); refine goesL_ (some 4) rfl rfl Try.func33 (by kernel_rfl) rfl #[.int .u32 0, .string a0] rfl (by (try simp only [List.map_toArray, List.map_cons, List.map_nil]); first | done | rfl | (simp only [List.length_drop, List.length_take]; rfl)) ?_; (with_reducible refine (bellmanref02_On.calls k 0 a0 t196 _ A2.out).mono ?_); rintro e w' ⟨rfl, ⟨nd, rfl⟩⟩; refine ⟨_, rfl, ?_⟩))
  go_ret
  exact ⟨by first | rfl | (simp; done) | (simp [*]; done), by repeat (first | exact Drawn0.refl _ | apply Drawn0.step)⟩

/-! ### bellmanref02_four: function 68 -/
def bellmanref02_four.f (a0 : Int) : Option (ByteArray) := some (strOfNums (([(a0) % 256, ((Int.tdiv a0 256) % 4294967296) % 256, ((Int.tdiv a0 65536) % 4294967296) % 256, ((Int.tdiv a0 16777216) % 4294967296) % 256] : List Int)))
set_option maxHeartbeats 8000000 in
set_option maxRecDepth 100000 in
theorem bellmanref02_four.calls (a0 : Int) (r : ByteArray) (w : World) (h : bellmanref02_four.f a0 = some r) :
    Calls Try.prog 68 #[.int .u32 a0] w fun e w' => e = .returned (.string r) ∧ Below w.heap.size w w' := by
  have HB := Aside0.mk (Below.refl w.heap.size w)
  have H : (some (strOfNums (([(a0) % 256, ((Int.tdiv a0 256) % 4294967296) % 256, ((Int.tdiv a0 65536) % 4294967296) % 256, ((Int.tdiv a0 16777216) % 4294967296) % 256] : List Int)))) = some r := h
  clear h
  obtain ⟨y197, hy197⟩ : ∃ y_ : List Int, y_ = (([(a0) % 256, ((Int.tdiv a0 256) % 4294967296) % 256, ((Int.tdiv a0 65536) % 4294967296) % 256, ((Int.tdiv a0 16777216) % 4294967296) % 256] : List Int)) := ⟨_, rfl⟩
  replace H : (some (strOfNums y197)) = some r := by first | (rw [hy197]; with_reducible exact H) | (have H2_ := (Option.bind_some _ _).symm.trans H; rw [hy197]; with_reducible exact H2_) | (have H2_ := (Option.bind_some _ _).symm.trans H; with_reducible exact H2_) | with_reducible exact H | (rw [hy197]; exact H) | exact H
  have Ny197 := Aside0.mk hy197
  clear hy197
  obtain rfl := Option.some.inj H
  go_enter Try.func68, Try.ntmps68
  go_wp2_with (first | ((with_reducible refine gate_dst (N := 14) rfl ?_); refine Kd.R_lit (Kd.int .u8) _ 5 ?hg (N := 14) ?hd (xs := ([(a0) % 256, ((Int.tdiv a0 256) % 4294967296) % 256, ((Int.tdiv a0 65536) % 4294967296) % 256, ((Int.tdiv a0 16777216) % 4294967296) % 256] : List Int)) (inner := [.int .u8 ((a0) % 256), .int .u8 (((Int.tdiv a0 256) % 4294967296) % 256), .int .u8 (((Int.tdiv a0 65536) % 4294967296) % 256), .int .u8 (((Int.tdiv a0 16777216) % 4294967296) % 256)]) (ok := fun _ => True) (okp := fun _ => True) ?hr ?hp (fun _ hk => hk) trivial (Below.refl _ _) (Nat.le_refl _) (by simp) ?_; (case hd => rfl); (case hg => rfl); (case hr => first | (go_simp; done) | (go_simp; rfl)); (case hp => exact (Reps.one (show Kd.M (Kd.int .u8) _ _ _ ((a0) % 256) [.int .u8 ((a0) % 256)] from rfl) (Reps.one (show Kd.M (Kd.int .u8) _ _ _ (((Int.tdiv a0 256) % 4294967296) % 256) [.int .u8 (((Int.tdiv a0 256) % 4294967296) % 256)] from rfl) (Reps.one (show Kd.M (Kd.int .u8) _ _ _ (((Int.tdiv a0 65536) % 4294967296) % 256) [.int .u8 (((Int.tdiv a0 65536) % 4294967296) % 256)] from rfl) (Reps.one (show Kd.M (Kd.int .u8) _ _ _ (((Int.tdiv a0 16777216) % 4294967296) % 256) [.int .u8 (((Int.tdiv a0 16777216) % 4294967296) % 256)] from rfl) (Reps.none _ _)))))); intro v198 w2 ho3 hb hg_ hnew_; clear hg_ hnew_; (first | rw [← Ny197.out] at ho3 | (simp only [Int.reduceToNat] at ho3; rw [← Ny197.out] at ho3)); have n0_ := Aside0.mk (Kd.R_lower ho3 (below_size (by repeat (first | (with_reducible first | exact HB.out | apply below_alloc | apply pw_below_drewN | apply below_drew1) | exact HB.out)))); have n1_ := Aside0.mk (below_step (by repeat (first | (with_reducible first | exact HB.out | apply below_alloc | apply pw_below_drewN | apply below_drew1) | exact HB.out)) hb); clear HB; have HO199 := n0_; have HB := n1_; clear n0_ n1_; clear hb ho3; have hcv4 := own_string (P := Try.prog) Try.underlying41 Try.underlying5 Try.underlying9 (Kd.own_of_R HO199.out)))
  go_ret
  exact ⟨by first | rfl | (simp [errW_none, errW_some] <;> rfl) | (simp [*, errW_none, errW_some] <;> rfl), by repeat (first | (with_reducible first | exact HB.out | apply below_alloc | apply pw_below_drewN | apply below_drew1) | exact HB.out)⟩

/-! ### bellmanref02_Frame: function 26 -/
def bellmanref02_Frame.f (k : Nat) (a0 : ByteArray) : Option (ByteArray × Int) := if (a0.size : Int) > 32768 then (some ((⟨#[]⟩ : ByteArray), 12)) else ((bellmanref01_Num.f k (a0.size : Int)).bind fun t200 => ((bellmanref02_Of.f k a0).bind fun t201 => ((bellmanref02_four.f t201).bind fun t202 => (if t200.size + t202.size ≤ 9223372036854775807 then (if (t200 ++ t202).size + a0.size ≤ 9223372036854775807 then (some ((t200 ++ t202) ++ a0, 0)) else (none)) else (none)))))
theorem bellmanref02_Frame.mono : ∀ a0 k, LeO (bellmanref02_Frame.f k a0) (bellmanref02_Frame.f (k + 1) a0) := by
  intro a0 k
  unfold bellmanref02_Frame.f
  repeat' first
      | (with_reducible exact bellmanref01_Num.mono _ _)
      | (with_reducible exact bellmanref02_Of.mono _ _)
      | (with_reducible exact LeO.refl _)
      | (with_reducible exact LeO.none _)
      | (with_reducible refine LeO.ite ?_ ?_)
      | (with_reducible refine LeO.bind ?_ (fun _ => ?_))
      | exact bellmanref01_Num.mono _ _
      | exact bellmanref02_Of.mono _ _
      | exact LeO.none _
      | refine LeO.ite ?_ ?_
      | refine LeO.bind ?_ (fun _ => ?_)
set_option maxHeartbeats 8000000 in
set_option maxRecDepth 100000 in
theorem bellmanref02_Frame.calls (k : Nat) (a0 : ByteArray) (r1 : ByteArray) (r2 : Int) (w : World) (h : bellmanref02_Frame.f k a0 = some (r1, r2)) :
    Calls Try.prog 26 #[.string a0] w fun e w' => e = .returned (.tuple #[.string r1, .int .i64 r2]) ∧ Below w.heap.size w w' := by
  have HB := Aside0.mk (Below.refl w.heap.size w)
  have H : (if (a0.size : Int) > 32768 then (some ((⟨#[]⟩ : ByteArray), 12)) else ((bellmanref01_Num.f k (a0.size : Int)).bind fun t200 => ((bellmanref02_Of.f k a0).bind fun t201 => ((bellmanref02_four.f t201).bind fun t202 => (if t200.size + t202.size ≤ 9223372036854775807 then (if (t200 ++ t202).size + a0.size ≤ 9223372036854775807 then (some ((t200 ++ t202) ++ a0, 0)) else (none)) else (none)))))) = some (r1, r2) := h
  clear h
  by_cases c2 : (a0.size : Int) > 32768
  · rw [if_pos c2] at H
    have c2b0 : decide (32768 < (a0.size : Int)) = true := decide_eq_true c2
    have c2b1 : decide (32768 < a0.size) = true := decide_eq_true (by omega)
    clear c2
    simp only [Option.some.injEq, Prod.mk.injEq] at H
    obtain ⟨rfl, rfl⟩ := H
    go_enter Try.func26, Try.ntmps26
    go_wp2
    go_ret2
    exact ⟨by first | rfl | (simp [errW_none, errW_some] <;> rfl) | (simp [*, errW_none, errW_some] <;> rfl), by repeat (first | (with_reducible first | exact HB.out | apply below_alloc | apply pw_below_drewN | apply below_drew1) | exact HB.out)⟩
  · rw [if_neg c2] at H
    have c2b0 : decide (32768 < (a0.size : Int)) = false := decide_eq_false c2
    have c2b1 : decide (32768 < a0.size) = false := decide_eq_false (by omega)
    clear c2
    replace H := Option.bind_eq_some_iff.mp H
    obtain ⟨t200, A30, H⟩ := H
    replace H : ((bellmanref02_Of.f k a0).bind fun t201 => ((bellmanref02_four.f t201).bind fun t202 => (if t200.size + t202.size ≤ 9223372036854775807 then (if (t200 ++ t202).size + a0.size ≤ 9223372036854775807 then (some ((t200 ++ t202) ++ a0, 0)) else (none)) else (none)))) = some (r1, r2) := H
    have A3 := Aside0.mk A30
    clear A30
    replace H := Option.bind_eq_some_iff.mp H
    obtain ⟨t201, A40, H⟩ := H
    replace H : ((bellmanref02_four.f t201).bind fun t202 => (if t200.size + t202.size ≤ 9223372036854775807 then (if (t200 ++ t202).size + a0.size ≤ 9223372036854775807 then (some ((t200 ++ t202) ++ a0, 0)) else (none)) else (none))) = some (r1, r2) := H
    have A4 := Aside0.mk A40
    clear A40
    replace H := Option.bind_eq_some_iff.mp H
    obtain ⟨t202, A50, H⟩ := H
    replace H : (if t200.size + t202.size ≤ 9223372036854775807 then (if (t200 ++ t202).size + a0.size ≤ 9223372036854775807 then (some ((t200 ++ t202) ++ a0, 0)) else (none)) else (none)) = some (r1, r2) := H
    have A5 := Aside0.mk A50
    clear A50
    by_cases c6 : t200.size + t202.size ≤ 9223372036854775807
    · rw [if_pos c6] at H
      have c6b0 := eq_true c6
      have c6b1 : decide (t200.size + t202.size ≤ 9223372036854775807) = true := decide_eq_true c6
      try have c6b2 : (9223372036854775807 < t200.size + t202.size) = False := eq_false (Nat.not_lt.2 c6)
      by_cases c7 : (t200 ++ t202).size + a0.size ≤ 9223372036854775807
      · rw [if_pos c7] at H
        have c7b0 := eq_true c7
        have c7b1 : decide ((t200 ++ t202).size + a0.size ≤ 9223372036854775807) = true := decide_eq_true c7
        try have c7b2 : (9223372036854775807 < (t200 ++ t202).size + a0.size) = False := eq_false (Nat.not_lt.2 c7)
        simp only [Option.some.injEq, Prod.mk.injEq] at H
        obtain ⟨rfl, rfl⟩ := H
        go_enter Try.func26, Try.ntmps26
        go_wp2_with (first | ((with_reducible refine gate_callee (f := 24) rfl ?_); refine goesL_ (some 9) rfl rfl Try.func24 (by kernel_rfl) rfl #[.int .i64 (a0.size : Int)] rfl (by (try simp only [List.map_toArray, List.map_cons, List.map_nil]); first | done | rfl | (simp only [List.length_drop, List.length_take]; rfl)) ?_; (with_reducible refine (bellmanref01_Num.calls k (a0.size : Int) t200 _ A3.out).mono ?_); rintro e w8 ⟨rfl, hb⟩; refine ⟨_, rfl, ?_⟩; have n0_ := Aside0.mk (below_step (by repeat (first | (with_reducible first | exact HB.out | apply below_alloc | apply pw_below_drewN | apply below_drew1) | exact HB.out)) hb); clear HB; have HB := n0_; clear n0_; (try clear hb); (try clear hb2); (try clear hk); (try clear hi)) | ((with_reducible refine gate_callee (f := 31) rfl ?_); refine goesL_ (some 11) rfl rfl Try.func31 (by kernel_rfl) rfl #[.string a0] rfl (by (try simp only [List.map_toArray, List.map_cons, List.map_nil]); first | done | rfl | (simp only [List.length_drop, List.length_take]; rfl)) ?_; (with_reducible refine (bellmanref02_Of.calls k a0 t201 _ A4.out).mono ?_); rintro e w' ⟨rfl, ⟨nd, rfl⟩⟩; refine ⟨_, rfl, ?_⟩) | ((with_reducible refine gate_callee (f := 68) rfl ?_); refine goesL_ (some 12) rfl rfl Try.func68 (by kernel_rfl) rfl #[.int .u32 t201] rfl (by (try simp only [List.map_toArray, List.map_cons, List.map_nil]); first | done | rfl | (simp only [List.length_drop, List.length_take]; rfl)) ?_; (with_reducible refine (bellmanref02_four.calls t201 t202 _ A5.out).mono ?_); rintro e w9 ⟨rfl, hb⟩; refine ⟨_, rfl, ?_⟩; have n0_ := Aside0.mk (below_step (by repeat (first | (with_reducible first | exact HB.out | apply below_alloc | apply pw_below_drewN | apply below_drew1) | exact HB.out)) hb); clear HB; have HB := n0_; clear n0_; (try clear hb); (try clear hb2); (try clear hk); (try clear hi)))
        go_ret2
        exact ⟨by first | rfl | (simp [errW_none, errW_some] <;> rfl) | (simp [*, errW_none, errW_some] <;> rfl), by repeat (first | (with_reducible first | exact HB.out | apply below_alloc | apply pw_below_drewN | apply below_drew1) | exact HB.out)⟩
      · rw [if_neg c7] at H
        exact absurd H (by simp)
    · rw [if_neg c6] at H
      exact absurd H (by simp)

end Go.Proofs.Ytgcilfpoblijnaa.X
