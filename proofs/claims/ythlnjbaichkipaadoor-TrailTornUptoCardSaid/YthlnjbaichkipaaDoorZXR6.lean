-- by px.py, a program of this session, over the kit's printer: functions given by hand stand beside printed ones. Lean checks all of it.
import Derived.Test.YthlnjbaichkipaaDoorZXR0
import Derived.Test.YthlnjbaichkipaaDoorZXR3
import Derived.Test.YthlnjbaichkipaaDoorZXR4
import Derived.Test.YthlnjbaichkipaaDoorZGKey
import Derived.Deep.DeepCutAuto
import Derived.Deep.CutRange
namespace Go.Proofs.YthlnjbaichkipaaDoor.XR
open Go.RowKit Go.Proofs.YthlnjbaichkipaaDoorW.PrintWords Go.Proofs.YthlnjbaichkipaaDoorW.PrintLast Go.Proofs.YthlnjbaichkipaaDoorW.PrintMore
attribute [local go_sem] max2_int min2_int max_two min_two max_three min_three max_four min_four   -- for this text's walks alone
set_option linter.unusedVariables false
set_option linter.unusedSimpArgs false
def cr_n (keep : List Int) (i : Nat) : Nat := if i < keep.length then (min (max 0 (rd keep (i : Int))) 64).toNat else 0
def cr_mix (s t : ByteArray) (n : Nat) : ByteArray := s.extract 0 n ++ t.extract n t.size
def cr_go (keep : List Int) : Nat → List S60 → List ByteArray → List ByteArray
 | _, [], b => b
 | i, x :: ws, b => cr_go keep (i + 1) ws (b.set x.f0.toNat (cr_mix x.f1 (b.getD x.f0.toNat ByteArray.empty) (cr_n keep i)))
theorem cr_n_le (keep : List Int) (i : Nat) : cr_n keep i ≤ 64 := by
 unfold cr_n
 split <;> omega
def dv_Crash (D : Dv) (keep : List Int) : Dv × Int := if dv_check D = 0 then (⟨cr_go keep 0 D.w D.b, [], -1, false⟩, 0) else (dv_zero, dv_check D)
def block_Crash.f (l0_0 : List ByteArray) (l0_1 : List (S60)) (a0_2 : Int) (a0_3 : Bool) (l1 : List Int) : Option (List ByteArray × (List (S60)) × Int × Bool × Int) := if dv_fit ⟨l0_0, l0_1, a0_2, a0_3⟩ then some (dv_five (dv_Crash ⟨l0_0, l0_1, a0_2, a0_3⟩ l1)) else none
def DC (s t : Nat) (A1 : Option Addr) (c1 : Nat) (A2 : Option Addr) (n2 c2 : Nat) (f : Int) (d : Bool) (w0 wr : World) (b : List ByteArray) : Prop :=
 wr.heap[s]? = some (.cells #[.slice A1 b.length c1, .slice A2 n2 c2, .int .i64 f, .bool d] 25 (0, 0)) ∧ (∃ cur, wr.heap[t]? = some (.cells cur 25 (0, 0)) ∧ cur.size = 4) ∧ TRow st_enc 1 9 wr (.slice A1 b.length c1) b ∧ (∀ k, (Value.slice A1 b.length c1).ownBlock = some k → w0.heap.size ≤ k) ∧ Below w0.heap.size w0 wr
theorem DC.below {s t : Nat} {A1 : Option Addr} {c1 : Nat} {A2 : Option Addr} {n2 c2 : Nat} {f : Int} {d : Bool} {w0 wr w1 : World} {b : List ByteArray} (h : DC s t A1 c1 A2 n2 c2 f d w0 wr b) (hb : Below wr.heap.size wr w1) : DC s t A1 c1 A2 n2 c2 f d w0 w1 b := by
 obtain ⟨h1, ⟨cur, h2, hz⟩, h3, h4, h5⟩ := h
 exact ⟨(hb.block s (blk_lt h1)).trans h1, ⟨cur, (hb.block _ (blk_lt h2)).trans h2, hz⟩, h3.moved (fun k hk => hb.block k (h3.lt k hk)), h4, below_then h5 h5.size hb⟩
theorem DC.set {s t b1 : Nat} {c1 : Nat} {A2 : Option Addr} {n2 c2 : Nat} {f : Int} {d : Bool} {w0 wr : World} {b : List ByteArray} (h : DC s t (some ⟨b1, 0, none⟩) c1 A2 n2 c2 f d w0 wr b) {i : Nat} (hi : i < b.length) (x : ByteArray) : DC s t (some ⟨b1, 0, none⟩) c1 A2 n2 c2 f d w0 (wr.setCell ⟨b1, i, none⟩ (.string x)) (b.set i x) := by
 obtain ⟨h1, ⟨cu, h2, hz⟩, h3, h4, h5⟩ := h
 obtain ⟨cur1, hcur1⟩ := h3.typed b1 rfl
 have hn1 : s ≠ b1 := fun e => by rw [e, hcur1] at h1; cases h1
 have hn2 : t ≠ b1 := fun e => by rw [e, hcur1] at h2; cases h2
 have ht := h3.set (fun _ => rfl) hi x
 have he : wr.setCells b1 (i * 1) (st_enc x) = wr.setCell ⟨b1, i, none⟩ (.string x) := by rw [Nat.mul_one]; rfl
 rw [he] at ht
 refine ⟨?_, ⟨cu, (Below.heap_setCell _ ⟨b1, i, none⟩ _ _ hn2).trans h2, hz⟩, ?_, ?_, h5.setCell (p := ⟨b1, i, none⟩) (h4 b1 rfl) _⟩
 ·rw [List.length_set]; exact (Below.heap_setCell _ ⟨b1, i, none⟩ _ s hn1).trans h1
 ·rw [List.length_set]; exact ht
 ·rw [List.length_set]; exact h4
theorem cr_go_at (keep : List Int) (ws : List S60) (b : List ByteArray) (k : Nat) (h : k < ws.length) : cr_go keep k (ws.drop k) b = cr_go keep (k + 1) (ws.drop (k + 1)) (b.set (rd_T60 ws (k : Int)).f0.toNat (cr_mix (rd_T60 ws (k : Int)).f1 (b.getD (rd_T60 ws (k : Int)).f0.toNat ByteArray.empty) (cr_n keep k))) := by
 have hr : rd_T60 ws (k : Int) = ws[k] := by
  unfold rd_T60
  rw [Int.toNat_natCast, List.getD_eq_getElem?_getD, List.getElem?_eq_getElem h]; rfl
 rw [List.drop_eq_getElem_cons h, cr_go, hr]
theorem dv_ok_all {D : Dv} (h : dv_ok D = true) : (∀ s ∈ D.b, s.size = 64) ∧ (∀ x ∈ D.w, 0 ≤ x.f0 ∧ x.f0 < (D.b.length : Int) ∧ x.f1.size = 64) := by
 unfold dv_ok dv_okw at h
 simp only [Bool.and_eq_true, decide_eq_true_eq, List.all_eq_true, beq_iff_eq] at h
 exact ⟨h.2.2.2.1, fun x hx => h.2.2.2.2 x hx⟩
theorem cr_mix_size {s t : ByteArray} {n : Nat} (hs : s.size = 64) (ht : t.size = 64) (hn : n ≤ 64) : (cr_mix s t n).size = 64 := by
 unfold cr_mix
 rw [ByteArray.size_append, ByteArray.size_extract, ByteArray.size_extract]
 omega
set_option maxHeartbeats 4000000 in
set_option maxRecDepth 100000 in
theorem block_Crash.calls (A0_0 : Option Addr) (c0_0 : Nat) (l0_0 : List ByteArray) (A0_1 : Option Addr) (c0_1 : Nat) (l0_1 : List (S60)) (a0_2 : Int) (a0_3 : Bool) (A1 : Option Addr) (c1 : Nat) (l1 : List Int) (r1 : List ByteArray) (r2 : List (S60)) (r3 : Int) (r4 : Bool) (r5 : Int) (w : World) (hr0_0 : Kd.C Kd.string w A0_0 l0_0.length l0_0) (hc0_0 : l0_0.length ≤ c0_0) (hr0_1 : Kd.C k60 w A0_1 l0_1.length l0_1) (hc0_1 : l0_1.length ≤ c0_1) (hr1 : Kd.C (Kd.int .i64) w A1 l1.length l1) (hc1 : l1.length ≤ c1) (h : block_Crash.f l0_0 l0_1 a0_2 a0_3 l1 = some (r1, r2, r3, r4, r5)) :
  Calls Tryd.prog 16 #[.agg #[.slice A0_0 l0_0.length c0_0, .slice A0_1 l0_1.length c0_1, .int .i64 a0_2, .bool a0_3], .slice A1 l1.length c1] w fun e w' => ∃ v0_ v1_ : Value, e = .returned (.tuple #[.agg #[v0_, v1_, .int .i64 r3, .bool r4], .int .i64 r5]) ∧ Kd.V Kd.string 9 w' w.heap.size (fun k_ => (w.heap.size ≤ k_)) v0_ r1 ∧ Kd.V k60 60 w' w.heap.size (fun k_ => (w.heap.size ≤ k_)) v1_ r2 ∧ Below w.heap.size w w' := by
 have hu2 := Tryd.underlying25
 have hu3 := Tryd.underlying60
 unfold block_Crash.f at h
 obtain ⟨D, hD⟩ : ∃ D : Dv, D = ⟨l0_0, l0_1, a0_2, a0_3⟩ := ⟨_, rfl⟩
 rw [← hD] at h
 obtain ⟨rfl, rfl, rfl, rfl⟩ : l0_0 = D.b ∧ l0_1 = D.w ∧ a0_2 = D.f ∧ a0_3 = D.d := by rw [hD]; exact ⟨rfl, rfl, rfl, rfl⟩
 clear hD
 split at h
 rotate_left
 ·cases h
 rename_i hfit
 have H := Option.some.inj h
 clear h
 have hb := below_alloc (below_alloc (Below.refl w.heap.size w) (.cells #[.slice A0_0 D.b.length c0_0, .slice A0_1 D.w.length c0_1, .int .i64 D.f, .bool D.d] 25)) (.cells #[.slice none 0 0, .slice none 0 0, .int .i64 0, .bool false] 25)
 have hn0 := blk_alloc (blk_new w (.cells #[.slice A0_0 D.b.length c0_0, .slice A0_1 D.w.length c0_1, .int .i64 D.f, .bool D.d] 25)) (.cells #[.slice none 0 0, .slice none 0 0, .int .i64 0, .bool false] 25)
 have hn := blk_new (w.alloc (.cells #[.slice A0_0 D.b.length c0_0, .slice A0_1 D.w.length c0_1, .int .i64 D.f, .bool D.d] 25)) (.cells #[.slice none 0 0, .slice none 0 0, .int .i64 0, .bool false] 25)
 rw [World.size_alloc] at hn
 have HC := Lib.hid (block_Check.calls A0_0 c0_0 D.b A0_1 c0_1 D.w D.f D.d (dv_check D) _ (Kd.C_below hr0_0 hb) hc0_0 (Kd.C_below hr0_1 hb) hc0_1 rfl)
 have HK := Lib.hid (And.intro hr0_0 (And.intro hr0_1 hr1))
 have HB := Lib.hid hb
 have HN := Lib.hid hn
 have HN0 := Lib.hid hn0
 clear hr0_0 hr0_1 hr1 hb hn hn0
 unfold dv_Crash dv_five at H
 by_cases c : dv_check D = 0
 rotate_left
 ·rw [if_neg c] at H
  simp only [Prod.mk.injEq] at H
  obtain ⟨rfl, rfl, rfl, rfl, rfl⟩ := H
  generalize dv_check D = r at HC c ⊢
  have d : (r != 0) = true := bne_iff_ne.mpr c
  go_enter Tryd.func16, Tryd.ntmps16
  go_wp2_with (first | (go_at_call 29; refine HC.out.mono ?_; rintro e w3 ⟨rfl, hb3⟩; have HB3 := Lib.hid (below_then HB.out HB.out.size hb3); have HCUR := Lib.hid ((hb3.block _ (blk_lt HN.out)).trans HN.out); clear hb3) | (refine keys_store_row rfl 25 (.tmp 4) (.tmp 15) rfl (w.heap.size + 1) _ #[.slice none 0 0, .slice none 0 0, .int .i64 0, .bool false] 25 rfl rfl HCUR.out rfl (by kernel_rfl) (by intro v hv; simp at hv; rcases hv with rfl | rfl | rfl | rfl <;> rfl) ?_))
  have o1 := setRow_heap w3 (w.heap.size + 1) _ #[.slice none 0 0, .slice none 0 0, .int .i64 0, .bool false] 25 _ HCUR.out
  obtain ⟨x0, x1, x2, x3⟩ := blk_cells4 o1
  refine bodyPost_ret (v := .tuple #[.agg #[.slice none 0 0, .slice none 0 0, .int .i64 0, .bool false], .int .i64 r]) (by simp [results, Tryd.results16, go_sem, x0, x1, x2, x3]) rfl ⟨_, _, rfl, Kd.V_nil _ _ _ _ _, Kd.V_nil _ _ _ _ _, keys_below_setRow HB3.out (by omega) _⟩
 rw [if_pos c] at H
 simp only [Prod.mk.injEq] at H
 obtain ⟨hr1, rfl, rfl, rfl, rfl⟩ := H
 rw [c] at HC
 have HALL := Lib.hid (dv_ok_all (dv_check_ok c))
 have HR1 := Lib.hid hr1
 have HFIT := Lib.hid hfit
 clear c hr1 hfit
 go_enter Tryd.func16, Tryd.ntmps16
 go_upto_region 5 with (first | (go_at_call 29; refine HC.out.mono ?_; rintro e w3 ⟨rfl, hb3⟩; have HB3 := Lib.hid (below_then HB.out HB.out.size hb3); have HCUR := Lib.hid ((hb3.block _ (blk_lt HN.out)).trans HN.out); have HCUR0 := Lib.hid ((hb3.block _ (blk_lt HN0.out)).trans HN0.out); obtain ⟨p0, p1, p2, p3⟩ := blk_cells4 HCUR0.out; clear hb3) | (go_at_call 30; refine (slices_Clone_string.calls A0_0 c0_0 D.b D.b _ (Kd.C_below HK.out.1 HB3.out) hc0_0 (by unfold slices_Clone_string.f; rw [if_pos HFIT.out.1])).mono ?_; rintro e w4 ⟨v4, rfl, hr4, hb4⟩; have HB4 := Lib.hid (below_then HB3.out HB3.out.size hb4); have hrow4 := (hb4.block _ (blk_lt HCUR0.out)).trans HCUR0.out; have HROW4 := Lib.hid hrow4; have HCU4 := Lib.hid ((hb4.block _ (blk_lt HCUR.out)).trans HCUR.out); obtain ⟨q0, q1, q2, q3⟩ := blk_cells4 hrow4; have z0 := blk_frozen hrow4 0; obtain ⟨B4, e4, rfl⟩ := Kd.R_slice hr4; have HR4 := Lib.hid (Kd.R_lower hr4 HB3.out.size); clear hr4 hb4 hrow4))
 letI : Inhabited ByteArray := ⟨ByteArray.empty⟩
 have hbase := fun k hk => Kd.R_base HR4.out k hk
 have ht4 : TRow st_enc 1 9 w4 (.slice B4 D.b.length e4) D.b := TRow.ofR (d := Kd.string) (fun hp => hp) rfl HR4.out
 have hne4 : ∀ k, (Value.slice B4 D.b.length e4).ownBlock = some k → k ≠ w.heap.size := fun k hk e => by
  obtain ⟨cur, hcur⟩ := ht4.typed k hk
  have := HROW4.out
  rw [e, this] at hcur
  cases hcur
 have hset := blk_set HROW4.out 0 (.slice B4 D.b.length e4)
 simp only [List.setIfInBounds_toArray, List.set_cons_zero] at hset
 have hdc : DC w.heap.size (w.heap.size + 1) B4 e4 A0_1 D.w.length c0_1 D.f D.d w (w4.setCell ⟨w.heap.size, 0, none⟩ (.slice B4 D.b.length e4)) D.b :=
  ⟨hset, ⟨_, (Below.heap_setCell _ ⟨w.heap.size, 0, none⟩ _ _ (by simp)).trans HCU4.out, rfl⟩, ht4.moved (fun k hk => Below.heap_setCell _ ⟨w.heap.size, 0, none⟩ _ k (hne4 k hk)), hbase, HB4.out.setCell (p := ⟨w.heap.size, 0, none⟩) (Nat.le_refl _) _⟩
 have HDC := Lib.hid hdc
 generalize (w4.setCell ⟨w.heap.size, 0, none⟩ (.slice B4 D.b.length e4)) = w5 at HDC ⊢
 obtain ⟨s, hs⟩ : ∃ s, s = w.heap.size := ⟨_, rfl⟩
 rw [← hs] at HDC ⊢
 have HS := Lib.hid hs
 have hmaxw := HK.out.2.1.2.1
 have hmaxk := HK.out.2.2.2.1
 obtain ⟨g0, g1, g2, g3⟩ := blk_cells4 HDC.out.1
 have HLEN := Lib.hid (rfl : D.b.length = D.b.length)
 clear hdc hset hne4 ht4 hbase HR4 HROW4 HCU4 HCUR HCUR0 HN HN0 HB HB3 HB4 HC p0 p1 p2 p3 q0 q1 q2 q3 z0 hs
 go_wp2
 go_loopw [24] (fun v24 wr => ∃ (k : Nat) (b : List ByteArray), v24 = .int .i64 (k : Int) ∧ k ≤ D.w.length ∧ Hid (DC s (s + 1) B4 e4 A0_1 D.w.length c0_1 D.f D.d w wr b) ∧ Hid (b.length = D.b.length ∧ (∀ x ∈ b, x.size = 64) ∧ cr_go l1 0 D.w D.b = cr_go l1 k (D.w.drop k) b)) (fun v24 _ => D.w.length - (intOf v24).toNat)
 case atStart => exact ⟨0, D.b, rfl, Nat.zero_le _, HDC, Lib.hid ⟨rfl, HALL.out.1, rfl⟩⟩
 case round =>
  clear HDC g0 g1 g2 g3
  obtain ⟨k, b, rfl, hk, HD, HI⟩ := hrel
  by_cases hlt : k < D.w.length
  rotate_left
  ·obtain rfl : k = D.w.length := by omega
   have q1 : ¬ ((D.w.length : Int) < (D.w.length : Int)) := by omega
   obtain ⟨h1, ⟨cu, h2, hcz⟩, h3, h4, h5⟩ := HD.out
   have HCZ := Lib.hid hcz
   clear hcz
   obtain ⟨g0, g1, g2, g3⟩ := blk_cells4 h1
   have f1 := blk_frozen h1 1
   have f2 := blk_frozen h1 2
   have f3 := blk_frozen h1 3
   have hs1 := blk_set (blk_set (blk_set h1 1 (.slice none 0 0)) 3 (.bool false)) 2 (.int .i64 (-1))
   simp only [List.setIfInBounds_toArray, List.set_cons_zero, List.set_cons_succ] at hs1
   have hs2 : (((wr.setCell ⟨s, 1, none⟩ (.slice none 0 0)).setCell ⟨s, 3, none⟩ (.bool false)).setCell ⟨s, 2, none⟩ (.int .i64 (-1))).heap[s + 1]? = some (.cells cu 25 (0, 0)) :=
    (Below.heap_setCell _ ⟨s, 2, none⟩ _ _ (by simp)).trans ((Below.heap_setCell _ ⟨s, 3, none⟩ _ _ (by simp)).trans ((Below.heap_setCell _ ⟨s, 1, none⟩ _ _ (by simp)).trans h2))
   have hsw : w.heap.size ≤ s := by rw [HS.out]; exact Nat.le_refl _
   have hb6 := ((h5.setCell (p := ⟨s, 1, none⟩) hsw (.slice none 0 0)).setCell (p := ⟨s, 3, none⟩) hsw (.bool false)).setCell (p := ⟨s, 2, none⟩) hsw (.int .i64 (-1))
   have hns : ∀ k, (Value.slice B4 b.length e4).ownBlock = some k → k ≠ s := fun k hk e => by
    obtain ⟨cur, hcur⟩ := h3.typed k hk
    rw [e, h1] at hcur
    cases hcur
   have hns2 : ∀ k, (Value.slice B4 b.length e4).ownBlock = some k → k ≠ s + 1 := fun k hk e => by
    obtain ⟨cur, hcur⟩ := h3.typed k hk
    rw [e, h2] at hcur
    cases hcur
   have ht6 := h3.moved (w' := ((wr.setCell ⟨s, 1, none⟩ (.slice none 0 0)).setCell ⟨s, 3, none⟩ (.bool false)).setCell ⟨s, 2, none⟩ (.int .i64 (-1))) (fun k hk => (Below.heap_setCell _ ⟨s, 2, none⟩ _ k (hns k hk)).trans ((Below.heap_setCell _ ⟨s, 3, none⟩ _ k (hns k hk)).trans (Below.heap_setCell _ ⟨s, 1, none⟩ _ k (hns k hk))))
   have hfin : b = cr_go l1 0 D.w D.b := by
    rw [HI.out.2.2, List.drop_of_length_le (Nat.le_refl _)]
    rfl
   have HS1 := Lib.hid hs1
   have HS2 := Lib.hid hs2
   have HB6 := Lib.hid hb6
   have HT6 := Lib.hid ht6
   have HO6 := Lib.hid (And.intro h4 hns2)
   have HFIN := Lib.hid hfin
   have hne1 : s + 1 ≠ s := by omega
   clear h1 h2 h3 h4 h5 hs1 hs2 hb6 hns hns2 ht6 hfin
   go_upto_region 15 with fail
   generalize (((wr.setCell ⟨s, 1, none⟩ (.slice none 0 0)).setCell ⟨s, 3, none⟩ (.bool false)).setCell ⟨s, 2, none⟩ (.int .i64 (-1))) = w6 at HS1 HS2 HB6 HT6 ⊢
   obtain ⟨y0, y1, y2, y3⟩ := blk_cells4 HS1.out
   clear g0 g1 g2 g3 f1 f2 f3
   go_wp2_with (refine keys_store_row rfl 25 (.tmp 4) (.tmp 60) rfl (s + 1) _ #[.slice B4 b.length e4, .slice none 0 0, .int .i64 (-1), .bool false] 25 rfl rfl HS2.out HCZ.out (by kernel_rfl) (by intro v hv; simp at hv; rcases hv with rfl | rfl | rfl | rfl <;> rfl) ?_)
   have o1 := setRow_heap w6 (s + 1) _ #[.slice B4 b.length e4, .slice none 0 0, .int .i64 (-1), .bool false] 25 _ HS2.out
   obtain ⟨x0, x1, x2, x3⟩ := blk_cells4 o1
   refine bodyPost_ret (v := .tuple #[.agg #[.slice B4 b.length e4, .slice none 0 0, .int .i64 (-1), .bool false], .int .i64 0]) (by simp [results, Tryd.results16, go_sem, x0, x1, x2, x3]) rfl ⟨_, _, rfl, ?_, Kd.V_nil _ _ _ _ _, keys_below_setRow HB6.out (by omega) _⟩
   rw [← HR1.out, ← HFIN.out]
   exact (HT6.out.moved (fun k hk => setRow_other w6 (s + 1) k _ (HO6.out.2 k hk))).toV (d := Kd.string) (fun _ _ => rfl) (fun _ => rfl) rfl w.heap.size (fun k hk => HO6.out.1 k hk)
  ·have q1 : ((k : Int) < (D.w.length : Int)) := by omega
   have q0 : (0 : Int) ≤ (k : Int) := by omega
   obtain ⟨h1, h2, h3, h4, h5⟩ := HD.out
   obtain ⟨ad, e0, hx0, hx1⟩ := at_T60 (Kd.C_below HK.out.2.1 h5) (k : Int) q0 q1
   cases e0
   simp only [Int.toNat_natCast] at hx0 hx1
   have hxin := HALL.out.2 (rd_T60 D.w (k : Int)) (by
    unfold rd_T60
    rw [Int.toNat_natCast, List.getD_eq_getElem?_getD, List.getElem?_eq_getElem hlt]
    exact List.getElem_mem hlt)
   have hgo := cr_go_at l1 D.w b k hlt
   obtain ⟨x, hx⟩ : ∃ x, x = rd_T60 D.w (k : Int) := ⟨_, rfl⟩
   rw [← hx] at hx0 hx1 hxin hgo
   have HX := Lib.hid hx
   obtain ⟨hx2, hx3, hx4⟩ := hxin
   have hbl := HI.out.1
   have hxb : x.f0.toNat < b.length := by omega
   have hpos : 0 < b.length := by omega
   obtain ⟨b1, cap1, cur1, he1, _⟩ := h3.form hpos
   obtain ⟨rfl, rfl⟩ : B4 = some ⟨b1, 0, none⟩ ∧ e4 = cap1 := by cases he1; exact ⟨rfl, rfl⟩
   clear he1
   obtain ⟨cur, hcur⟩ := h3.typed b1 rfl
   have hw5 := h4 b1 rfl
   obtain ⟨old, hold, holdz, holdd⟩ : ∃ old, wr.cell? ⟨b1, x.f0.toNat, none⟩ = some (.string old) ∧ old.size = 64 ∧ b.getD x.f0.toNat ByteArray.empty = old := by
    have ho := h3.cell (i := x.f0.toNat) (x := b[x.f0.toNat]'hxb) (List.getElem?_eq_getElem hxb) (t := 0) (u := .string (b[x.f0.toNat]'hxb)) rfl
    simp only [Nat.mul_one, Nat.add_zero] at ho
    exact ⟨_, ho, HI.out.2.1 _ (List.getElem_mem hxb), by rw [List.getD_eq_getElem?_getD, List.getElem?_eq_getElem hxb]; rfl⟩
   rw [holdd] at hgo
   obtain ⟨g0, g1, g2, g3⟩ := blk_cells4 h1
   have hne1 : wr.heap.size ≠ s := World.new_ne wr ⟨s, 0, none⟩ g0
   have hne2 : wr.heap.size ≠ b1 := World.new_ne wr ⟨b1, _, none⟩ hold
   have HL2 := Lib.hid (HD.out.below (below_alloc (Below.refl wr.heap.size wr) (.cells #[.int .i64 x.f0, .string x.f1] 60)))
   have y0 : (wr.alloc (.cells #[.int .i64 x.f0, .string x.f1] 60)).cell? ⟨s, 0, none⟩ = some (.slice (some ⟨b1, 0, none⟩) b.length e4) := (World.cell?_alloc_lt _ _ _ (World.block_lt_of_cell? wr ⟨s, 0, none⟩ g0)).trans g0
   have y1 : (wr.alloc (.cells #[.int .i64 x.f0, .string x.f1] 60)).cell? ⟨b1, x.f0.toNat, none⟩ = some (.string old) := (World.cell?_alloc_lt _ _ _ (World.block_lt_of_cell? wr ⟨b1, _, none⟩ hold)).trans hold
   have y2 : (wr.alloc (.cells #[.int .i64 x.f0, .string x.f1] 60)).frozen? ⟨b1, x.f0.toNat, none⟩ = false := blk_frozen (blk_alloc hcur _) _
   have yb := blk_new wr (.cells #[.int .i64 x.f0, .string x.f1] 60)
   obtain ⟨yb0, yb1⟩ := (show (wr.alloc (.cells #[.int .i64 x.f0, .string x.f1] 60)).cell? ⟨wr.heap.size, 0, none⟩ = some (.int .i64 x.f0) ∧ (wr.alloc (.cells #[.int .i64 x.f0, .string x.f1] 60)).cell? ⟨wr.heap.size, 1, none⟩ = some (.string x.f1) from ⟨blk_cell yb 0, blk_cell yb 1⟩)
   have xq1 : x.f0 < (b.length : Int) := by omega
   have mixed : Tryd.prog.follows Departure.mixedOrders = true := by kernel_rfl
   obtain ⟨n, hn⟩ : ∃ n, n = cr_n l1 k := ⟨_, rfl⟩
   have hnle : n ≤ 64 := by rw [hn]; exact cr_n_le l1 k
   rw [← hn] at hgo
   have HN := Lib.hid hn
   have HGO := Lib.hid hgo
   have HOZ := Lib.hid holdz
   have HXZ := Lib.hid hx4
   have HBL := Lib.hid hbl
   have k1 : (n : Int) ≤ (x.f1.size : Int) := by omega
   have k2 : (n : Int) ≤ (old.size : Int) := by omega
   have k3 : ¬ 9223372036854775807 < (x.f1.extract 0 n).size + (old.extract n old.size).size := by rw [ByteArray.size_extract, ByteArray.size_extract]; omega
   have k6 : ¬ 9223372036854775807 < min n x.f1.size + (old.size - n) := by omega
   have k4 : (0 : Int) ≤ (n : Int) := by omega
   have k5 : x.f1.size ≤ 9223372036854775807 := by omega
   clear h1 h2 h3 h4 h5 hcur yb hn hgo holdz hx4 hbl hx g1 g2 g3
   have hyk : k < l1.length → ∃ ad2 v, A1 = some ad2 ∧ (wr.alloc (.cells #[.int .i64 x.f0, .string x.f1] 60)).cell? (ad2.add k) = some (.int .i64 v) ∧ (n : Int) = min (max 0 v) 64 := by
    intro hkk
    obtain ⟨ad2, e2, hy⟩ := Kd.at_int (Kd.C_below HK.out.2.2 HD.out.2.2.2.2) (k : Int) q0 (by omega)
    have hy2 := (World.cell?_alloc_lt wr (.cells #[.int .i64 x.f0, .string x.f1] 60) _ (World.block_lt_of_cell? wr _ hy)).trans hy
    simp only [Int.toNat_natCast] at hy2
    refine ⟨ad2, _, e2, hy2, ?_⟩
    have := HN.out
    unfold cr_n at this
    rw [if_pos hkk] at this
    omega
   have HYK := Lib.hid hyk
   clear hyk hold
   go_upto_region 9 with fail
   generalize wr.heap.size = q at yb0 yb1 hne1 hne2 HL2 ⊢
   generalize (wr.alloc (.cells #[.int .i64 x.f0, .string x.f1] 60)) = W1 at y0 y1 y2 yb0 yb1 HL2 HYK ⊢
   clear hx0 hx1 g0
   have HY := Lib.hid (And.intro y0 (And.intro y1 (And.intro y2 (And.intro yb0 yb1))))
   go_upto_if 32 with fail
   go_cut [9] (fun v9 wc => v9 = .int .i64 (n : Int) ∧ wc = W1)
   case first =>
    by_cases hkk : k < l1.length
    ·have u1 : ((k : Int) < (l1.length : Int)) := by omega
     obtain ⟨ad2, v, e2, hy2, hnv⟩ := HYK.out hkk
     subst e2
     by_cases v1 : 0 < v
     ·by_cases v2 : 64 < v
      ·obtain rfl : n = 64 := by omega
       clear hnv
       go_wp2
       go_meet
       case rel => exact ⟨rfl, rfl⟩
      ·obtain rfl : v = (n : Int) := by omega
       clear hnv
       go_wp2
       go_meet
       case rel => exact ⟨rfl, rfl⟩
     ·obtain rfl : n = 0 := by omega
      clear hnv
      go_wp2
      go_meet
      case rel => exact ⟨rfl, rfl⟩
    ·have u1 : ¬ ((k : Int) < (l1.length : Int)) := by omega
     have hn0 : n = 0 := by
      have := HN.out
      unfold cr_n at this
      rw [if_neg hkk] at this
      exact this
     subst hn0
     go_wp2
     go_meet
     case rel => exact ⟨rfl, rfl⟩
   case rest =>
   obtain ⟨rfl, hw1⟩ := hcut
   subst hw1
   obtain ⟨y0, y1, y2, yb0, yb1⟩ := HY.out
   go_upto_region 12 with fail
   refine start_ (n := 13) (S := fun w' => w'.cell? ⟨q, 1, none⟩ = some (.string x.f1) ∧ w'.cell? ⟨b1, x.f0.toNat, none⟩ = some (.string old)) (ds := [12]) #[false, false, false, false, false, false, false, false, false, false, false, false, false] (by kernel_rfl) rfl rfl (⟨yb1, y1⟩) (fun hHeld => ?_)
   refine pure_ (i := 0) (N := some 44) (v := ?_) (a' := ?_) #[true, false, false, false, false, false, false, false, false, false, false, false, false] rfl rfl (by kernel_rfl) (fun _ _ _ h => h) (Or.inl ⟨by rfl, ?_⟩) ?_ ?_
   rotate_left
   ·intro w'
    go_simp
    with_reducible rfl
   rotate_left
   ·simp only [Act.put, List.setIfInBounds_toArray, List.set_cons_zero, List.set_cons_succ, i64_w, i32_w]
    rfl
   refine pure_ (i := 1) (N := some 45) (v := ?_) (a' := ?_) #[true, true, false, false, false, false, false, false, false, false, false, false, false] rfl rfl (by kernel_rfl) (fun _ _ _ h => h) (Or.inl ⟨by rfl, ?_⟩) ?_ ?_
   rotate_left
   ·intro w'
    go_simp
    with_reducible rfl
   rotate_left
   ·simp only [Act.put, List.setIfInBounds_toArray, List.set_cons_zero, List.set_cons_succ, i64_w, i32_w]
    rfl
   refine take_ (i := 2) (N := some 46) (v := ?_) (a' := ?_) #[true, true, true, false, false, false, false, false, false, false, false, false, false] rfl rfl (by kernel_rfl) (fun _ _ _ h => h) (Or.inl ⟨by rfl, ?_⟩) hHeld ?_ ?_
   rotate_left
   ·rintro w' ⟨s0, s1⟩
    go_simp
    with_reducible rfl
   rotate_left
   ·simp only [Act.put, List.setIfInBounds_toArray, List.set_cons_zero, List.set_cons_succ, i64_w, i32_w]
    rfl
   refine pure_ (i := 3) (N := some 47) (v := ?_) (a' := ?_) #[true, true, true, true, false, false, false, false, false, false, false, false, false] rfl rfl (by kernel_rfl) (fun _ _ _ h => h) (Or.inl ⟨by rfl, ?_⟩) ?_ ?_
   rotate_left
   ·intro w'
    go_simp
    with_reducible rfl
   rotate_left
   ·simp only [Act.put, List.setIfInBounds_toArray, List.set_cons_zero, List.set_cons_succ, i64_w, i32_w]
    rfl
   refine pure_ (i := 4) (N := some 48) (v := ?_) (a' := ?_) #[true, true, true, true, true, false, false, false, false, false, false, false, false] rfl rfl (by kernel_rfl) (fun _ _ _ h => h) (Or.inl ⟨by rfl, ?_⟩) ?_ ?_
   rotate_left
   ·intro w'
    go_simp
    with_reducible rfl
   rotate_left
   ·simp only [Act.put, List.setIfInBounds_toArray, List.set_cons_zero, List.set_cons_succ, i64_w, i32_w]
    rfl
   refine pure_ (i := 5) (N := some 49) (v := ?_) (a' := ?_) #[true, true, true, true, true, true, false, false, false, false, false, false, false] rfl rfl (by kernel_rfl) (fun _ _ _ h => h) (Or.inl ⟨by rfl, ?_⟩) ?_ ?_
   rotate_left
   ·intro w'
    go_simp
    with_reducible rfl
   rotate_left
   ·simp only [Act.put, List.setIfInBounds_toArray, List.set_cons_zero, List.set_cons_succ, i64_w, i32_w]
    rfl
   refine pure_ (i := 6) (N := some 50) (v := ?_) (a' := ?_) #[true, true, true, true, true, true, true, false, false, false, false, false, false] rfl rfl (by kernel_rfl) (fun _ _ _ h => h) (Or.inl ⟨by rfl, ?_⟩) ?_ ?_
   rotate_left
   ·intro w'
    go_simp
    with_reducible rfl
   rotate_left
   ·simp only [Act.put, List.setIfInBounds_toArray, List.set_cons_zero, List.set_cons_succ, i64_w, i32_w]
    rfl
   refine take_ (i := 7) (N := some 51) (v := ?_) (a' := ?_) #[true, true, true, true, true, true, true, true, false, false, false, false, false] rfl rfl (by kernel_rfl) (fun _ _ _ h => h) (Or.inl ⟨by rfl, ?_⟩) hHeld ?_ ?_
   rotate_left
   ·rintro w' ⟨s0, s1⟩
    go_simp
    with_reducible rfl
   rotate_left
   ·simp only [Act.put, List.setIfInBounds_toArray, List.set_cons_zero, List.set_cons_succ, i64_w, i32_w]
    rfl
   refine pure_ (i := 8) (N := some 52) (v := ?_) (a' := ?_) #[true, true, true, true, true, true, true, true, true, false, false, false, false] rfl rfl (by kernel_rfl) (fun _ _ _ h => h) (Or.inl ⟨by rfl, ?_⟩) ?_ ?_
   rotate_left
   ·intro w'
    go_simp
    with_reducible rfl
   rotate_left
   ·simp only [Act.put, List.setIfInBounds_toArray, List.set_cons_zero, List.set_cons_succ, i64_w, i32_w]
    rfl
   refine pure_ (i := 9) (N := some 53) (v := ?_) (a' := ?_) #[true, true, true, true, true, true, true, true, true, true, false, false, false] rfl rfl (by kernel_rfl) (fun _ _ _ h => h) (Or.inl ⟨by rfl, ?_⟩) ?_ ?_
   rotate_left
   ·intro w'
    go_simp
    with_reducible rfl
   rotate_left
   ·simp only [Act.put, List.setIfInBounds_toArray, List.set_cons_zero, List.set_cons_succ, i64_w, i32_w]
    rfl
   refine pure_ (i := 10) (N := some 54) (v := ?_) (a' := ?_) #[true, true, true, true, true, true, true, true, true, true, true, false, false] rfl rfl (by kernel_rfl) (fun _ _ _ h => h) (Or.inl ⟨by rfl, ?_⟩) ?_ ?_
   rotate_left
   ·intro w'
    go_simp
    with_reducible rfl
   rotate_left
   ·simp only [Act.put, List.setIfInBounds_toArray, List.set_cons_zero, List.set_cons_succ, i64_w, i32_w]
    rfl
   refine pure_ (i := 11) (N := some 55) (v := ?_) (a' := ?_) #[true, true, true, true, true, true, true, true, true, true, true, true, false] rfl rfl (by kernel_rfl) (fun _ _ _ h => h) (Or.inl ⟨by rfl, ?_⟩) ?_ ?_
   rotate_left
   ·intro w'
    go_simp
    with_reducible rfl
   rotate_left
   ·simp only [Act.put, List.setIfInBounds_toArray, List.set_cons_zero, List.set_cons_succ, i64_w, i32_w]
    rfl
   refine last_ (i := 12) (N := none) #[true, true, true, true, true, true, true, true, true, true, true, true, true] rfl rfl (by kernel_rfl) (by decide) (fun K hK => ?_)
   refine skip_ (w1 := ?_) (by rfl) rfl ?_ ?_
   rotate_left
   ·go_simp
    rfl
   refine hK.out _ _ ?_
   clear hK K
   refine done_ (by kernel_rfl) ?_
   have hst := HL2.out.set (i := x.f0.toNat) hxb (cr_mix x.f1 old n)
   unfold cr_mix at hst
   have HL3 := Lib.hid (hst.below (below_drew1 (Below.refl _ _)))
   clear hst y0 y1 y2 yb0 yb1 hHeld HL2 HYK HY
   go_wp2
   go_roundw
   case rel => exact ⟨k + 1, b.set x.f0.toNat (cr_mix x.f1 old n), by first | rfl | go_num, by omega, HL3, Lib.hid ⟨by rw [List.length_set]; exact HBL.out, fun y hy => (List.mem_or_eq_of_mem_set hy).elim (HI.out.2.1 y) (fun e => by rw [e]; exact cr_mix_size HXZ.out HOZ.out hnle), by rw [HI.out.2.2, HGO.out]⟩⟩
   case measure => simp [intOf]; omega


end Go.Proofs.YthlnjbaichkipaaDoor.XR
