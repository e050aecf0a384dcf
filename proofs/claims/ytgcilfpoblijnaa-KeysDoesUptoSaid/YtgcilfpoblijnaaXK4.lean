-- by px.py, a program of this session, over the kit's printer: functions given by hand stand beside printed ones. Lean checks all of it.
import Derived.Test.YtgcilfpoblijnaaXK0
import Derived.Test.YtgcilfpoblijnaaXK1
import Derived.Test.YtgcilfpoblijnaaXK2
import Derived.Test.YtgcilfpoblijnaaXK3
import Derived.Test.YtgcilfpoblijnaaGKey
import Derived.Test.YtgcilfpoblijnaaGKey
namespace Go.Proofs.Ytgcilfpoblijnaa.XK
open Go.RowKit Go.Proofs.YtgcilfpoblijnaaW.PrintWords Go.Proofs.YtgcilfpoblijnaaW.PrintLast Go.Proofs.YtgcilfpoblijnaaW.PrintMore
attribute [local go_sem] max2_int min2_int max_two min_two max_three min_three max_four min_four   -- for this text's walks alone
set_option linter.unusedVariables false
set_option linter.unusedSimpArgs false

attribute [local go_sem high] eqA91
-- PXIMPORT YtgcilfpoblijnaaGKey
/-! ### keys_Encode: function 52, by hand -/
def keys_Encode.go : List Int → List (S91) → Option (List Int)
  | b, [] => some b
  | b, x :: l => (wire_Put.f b (x.f0.size : Int)).bind fun b1 => if b1.length + x.f0.size ≤ 140737488355328 then (wire_Put.f (b1 ++ bytesOf x.f0) x.f1).bind fun b2 => keys_Encode.go b2 l else none
def keys_Encode.f (k : Nat) (l0 : List (S91)) : Option (ByteArray × Int) :=
  (keys_Check.f k l0).bind fun why => if why = 0 then (wire_Put.f [] (l0.length : Int)).bind fun b => (keys_Encode.go b l0).bind fun b' => some (strOfNums b', 0) else some (⟨#[]⟩, why)
theorem keys_Encode.mono : ∀ a0 k, LeO (keys_Encode.f k a0) (keys_Encode.f (k + 1) a0) := by
  intro a0 k
  unfold keys_Encode.f
  exact LeO.bind (keys_Check.mono _ _) (fun _ => LeO.refl _)
set_option maxHeartbeats 800000 in
set_option maxRecDepth 100000 in
theorem keys_Encode.calls (k : Nat) (A0 : Option Addr) (c0 : Nat) (l0 : List (S91)) (r1 : ByteArray) (r2 : Int) (w : World) (hr0 : Kd.C k91 w A0 l0.length l0) (hc0 : l0.length ≤ c0) (h : keys_Encode.f k l0 = some (r1, r2)) :
    Calls Try.prog 52 #[.slice A0 l0.length c0] w fun e w' => e = .returned (.tuple #[.string r1, .int .i64 r2]) ∧ Below w.heap.size w w' := by
  have hu := Try.underlying91
  have hlen := hr0.2.1
  have HR := Lib.hid hr0; clear hr0
  have H : ((keys_Check.f k l0).bind fun why => if why = 0 then (wire_Put.f [] (l0.length : Int)).bind fun b => (keys_Encode.go b l0).bind fun b' => some (strOfNums b', 0) else some (⟨#[]⟩, why)) = some (r1, r2) := h
  clear h
  replace H := Option.bind_eq_some_iff.mp H
  obtain ⟨why, A1, H⟩ := H
  replace A1 := Lib.hid A1
  go_enter Try.func52, Try.ntmps52
  by_cases c1 : why = 0
  rotate_left
  · rw [if_neg c1] at H
    simp only [Option.some.injEq, Prod.mk.injEq] at H
    obtain ⟨rfl, rfl⟩ := H
    have d1 : (why != 0) = true := bne_iff_ne.mpr c1
    go_wp2_with (go_at_call 57; refine (keys_Check.calls k A0 c0 _ _ _ HR.out hc0 A1.out).mono ?_; rintro e w1 ⟨rfl, hb1⟩)
    go_ret2
    exact ⟨rfl, hb1⟩
  rw [if_pos c1] at H
  subst c1
  replace H := Option.bind_eq_some_iff.mp H
  obtain ⟨b0, A2, H⟩ := H
  replace A2 := Lib.hid A2
  replace H := Option.bind_eq_some_iff.mp H
  obtain ⟨bN, A3, H⟩ := H
  replace A3 := Lib.hid A3
  simp only [Option.some.injEq, Prod.mk.injEq] at H
  obtain ⟨rfl, rfl⟩ := H
  go_wp2_with (first | (go_at_call 57; refine (keys_Check.calls k A0 c0 _ _ _ HR.out hc0 A1.out).mono ?_; rintro e w1 ⟨rfl, hb1⟩; have HB1 := Lib.hid hb1; have HR1 := Lib.hid (Kd.C_below HR.out hb1); clear hb1) | (go_at_call 65; refine (wire_Put.calls (fun _ => True) (.slice none 0 0) [] (l0.length : Int) b0 w _ HB1.out (Kd.R_nil _ _ _ _ _) A2.out).mono ?_; rintro e w2 ⟨v2, rfl, ho2, hb2, hk2⟩; have HO2 := Lib.hid (Kd.R_mono ho2 (fun _ _ => trivial : ∀ k_, _ → (fun _ => True) k_)); have HB2 := Lib.hid hb2; have HR2 := Lib.hid (Kd.C_below HR.out hb2); clear ho2 hb2 hk2))
  go_loopg [5, 7, 18] (l0.length + 1) (fun kq v5 v7 v18 w' => ∃ (i : Nat) (b : List Int), i ≤ l0.length ∧ kq = l0.length + 1 - i ∧ v18 = .int .i64 (i : Int) ∧ Hid (keys_Encode.go b (l0.drop i) = some bN) ∧ Hid (Kd.R (Kd.int .u8) 5 w' w.heap.size (fun _ => True) v5 b) ∧ Hid (Below w.heap.size w w'))
  case atStart => exact ⟨0, b0, Nat.zero_le _, by omega, rfl, A3, HO2, HB2⟩
  case round =>
    clear A2 A3 HO2 HB2 HR2 HR1 HB1
    obtain ⟨i, b, hi, hkq, rfl, HG, HO, HB⟩ := hrel
    by_cases hil : i < l0.length
    · have h1 : ((i : Int) < (l0.length : Int)) := by omega
      have h0 : (0 : Int) ≤ (i : Int) := by omega
      obtain ⟨ad, e0, hy0, hy1⟩ := at_T91 HR.out (i : Int) h0 h1
      cases e0
      replace hy0 := (HB.out.cell (World.block_lt_of_cell? w _ hy0)).trans hy0
      replace hy1 := (HB.out.cell (World.block_lt_of_cell? w _ hy1)).trans hy1
      simp only [Int.toNat_natCast] at hy0 hy1
      have hrd : rd_T91 l0 (i : Int) = l0[i] := by
        unfold rd_T91
        rw [Int.toNat_natCast, List.getD_eq_getElem?_getD, List.getElem?_eq_getElem hil]; rfl
      rw [hrd] at hy0 hy1
      have H := HG.out
      rw [List.drop_eq_getElem_cons hil, keys_Encode.go] at H
      generalize l0[i] = x at hy0 hy1 H
      clear hrd
      replace H := Option.bind_eq_some_iff.mp H
      obtain ⟨b1, B1, H⟩ := H
      replace B1 := Lib.hid B1
      by_cases cl : b1.length + x.f0.size ≤ 140737488355328
      rotate_left
      · rw [if_neg cl] at H; cases H
      rw [if_pos cl] at H
      replace H := Option.bind_eq_some_iff.mp H
      obtain ⟨b2, B2, H⟩ := H
      replace B2 := Lib.hid B2
      have HG2 := Lib.hid H; clear H HG
      have d1 : decide ((i : Int) < (l0.length : Int)) = true := decide_eq_true h1
      have p1 := eq_true h0
      have q1 := eq_true h1
      go_wp2_with ((with_reducible refine gate_dst (N := 7) rfl ?_); refine box_event ?hg (N := 7) ?hd (cs := #[.string (⟨#[]⟩ : ByteArray), .int .i64 0]) (t := 91) ?hr ?_; (case hd => rfl); (case hg => rfl); (case hr => first | (go_simp; done) | (go_simp; rfl)); intro gb hgb w4 hbox hb4; have hbg : w.heap.size ≤ gb := (by have := HB.out.size; omega); refine keys_store_row rfl 91 (.tmp 7) (.tmp 21) rfl gb #[.string (⟨#[]⟩ : ByteArray), .int .i64 0] #[.string x.f0, .int .i64 x.f1] 91 rfl rfl hbox rfl (by kernel_rfl) (by intro v_ hv_; simp at hv_; rcases hv_ with rfl | rfl <;> rfl) ?_; have hr5 := setRow_heap w4 gb #[.string (⟨#[]⟩ : ByteArray), .int .i64 0] #[.string x.f0, .int .i64 x.f1] 91 (0, 0) hbox; have hB5 := keys_below_setRow (below_then HB.out HB.out.size hb4) hbg #[.string x.f0, .int .i64 x.f1]; have hsame : ∀ k_, k_ < wr.heap.size → (w4.setRow gb #[.string x.f0, .int .i64 x.f1]).heap[k_]? = wr.heap[k_]? := (fun k_ hk_ => (setRow_other w4 gb k_ _ (by omega)).trans (hb4.block k_ hk_)); generalize w4.setRow gb #[.string x.f0, .int .i64 x.f1] = W5_ at *; have hx0 : W5_.cell? ⟨gb, 0, none⟩ = some (.string x.f0) := (blk_cell hr5 0).trans rfl; have hx1 : W5_.cell? ⟨gb, 1, none⟩ = some (.int .i64 x.f1) := (blk_cell hr5 1).trans rfl; have HB5 := Lib.hid hB5; have HO5 : Hid (Kd.R (Kd.int .u8) 5 W5_ w.heap.size (fun _ => True) u5 b) := Lib.hid (Kd.R_step HO.out (fun k_ _ hk_ => hsame k_ hk_)); have HR5 := Lib.hid hr5; clear hB5 hsame hbox hb4 hgb hr5 HO HB)
      simp only [Act.put, List.setIfInBounds_toArray, List.set_cons_zero, List.set_cons_succ]
      refine start_ (n := 9) (S := fun w' => w'.cell? ⟨gb, 0, none⟩ = some (.string x.f0)) (ds := []) #[false, false, false, false, false, false, false, false, false] (by kernel_rfl) rfl rfl hx0 (fun hHeld => ?_)
      refine pure_ (i := 0) (N := some 22) (v := u5) #[true, false, false, false, false, false, false, false, false] rfl rfl (by kernel_rfl) (fun _ _ _ h => h) (Or.inl ⟨by rfl, fun w' => by go_simp⟩) rfl ?_
      refine norm_ (a' := ?_) ?_ ?_
      rotate_left
      · simp only [Act.put, List.setIfInBounds_toArray, List.set_cons_zero, List.set_cons_succ, i64_w, i32_w]
        rfl
      refine pure_ (i := 1) (N := some 23) (v := .pointer (some ⟨gb, 0, none⟩)) #[true, true, false, false, false, false, false, false, false] rfl rfl (by kernel_rfl) (fun _ _ _ h => h) (Or.inl ⟨by rfl, fun w' => by go_simp⟩) rfl ?_
      refine norm_ (a' := ?_) ?_ ?_
      rotate_left
      · simp only [Act.put, List.setIfInBounds_toArray, List.set_cons_zero, List.set_cons_succ, i64_w, i32_w]
        rfl
      refine take_ (i := 2) (N := some 24) (v := .string x.f0) #[true, true, true, false, false, false, false, false, false] rfl rfl (by kernel_rfl) (fun _ _ _ h => h) (Or.inl ⟨by rfl, fun w' (hS : w'.cell? ⟨gb, 0, none⟩ = some (.string x.f0)) => by go_simp⟩) hHeld rfl ?_
      refine norm_ (a' := ?_) ?_ ?_
      rotate_left
      · simp only [Act.put, List.setIfInBounds_toArray, List.set_cons_zero, List.set_cons_succ, i64_w, i32_w]
        rfl
      refine pure_ (i := 3) (N := some 25) (v := .int .i64 (x.f0.size : Int)) #[true, true, true, true, false, false, false, false, false] rfl rfl (by kernel_rfl) (fun _ _ _ h => h) (Or.inl ⟨by rfl, fun w' => by go_simp⟩) rfl ?_
      refine norm_ (a' := ?_) ?_ ?_
      rotate_left
      · simp only [Act.put, List.setIfInBounds_toArray, List.set_cons_zero, List.set_cons_succ, i64_w, i32_w]
        rfl
      refine pure_ (i := 5) (N := some 27) (v := .pointer (some ⟨gb, 0, none⟩)) #[true, true, true, true, false, true, false, false, false] rfl rfl (by kernel_rfl) (fun _ _ _ h => h) (Or.inl ⟨by rfl, fun w' => by go_simp⟩) rfl ?_
      refine norm_ (a' := ?_) ?_ ?_
      rotate_left
      · simp only [Act.put, List.setIfInBounds_toArray, List.set_cons_zero, List.set_cons_succ, i64_w, i32_w]
        rfl
      refine take_ (i := 6) (N := some 28) (v := .string x.f0) #[true, true, true, true, false, true, true, false, false] rfl rfl (by kernel_rfl) (fun _ _ _ h => h) (Or.inl ⟨by rfl, fun w' (hS : w'.cell? ⟨gb, 0, none⟩ = some (.string x.f0)) => by go_simp⟩) hHeld rfl ?_
      refine norm_ (a' := ?_) ?_ ?_
      rotate_left
      · simp only [Act.put, List.setIfInBounds_toArray, List.set_cons_zero, List.set_cons_succ, i64_w, i32_w]
        rfl
      refine one_ (i := 4) (N := some 26) #[true, true, true, true, true, true, true, false, false] rfl rfl (by kernel_rfl) (by decide) (fun K hK => ?_)
      refine call_ 65 #[u5, .int .i64 (x.f0.size : Int)] rfl rfl (by go_simp) ?_
      have hapart := Kd.R_types HO5.out HR5.out (by decide)
      refine (wire_Put.calls (fun k_ => True ∧ k_ ≠ gb) u5 b (x.f0.size : Int) b1 w _ (below_drew1 HB5.out) (Kd.R_drew hapart) B1.out).mono ?_
      rintro e w6 ⟨v6, rfl, ho6, hb6, hk6⟩
      refine ⟨_, rfl, ?_⟩
      have hr6 : w6.heap[gb]? = some (.cells #[.string x.f0, .int .i64 x.f1] 91 (0, 0)) := (hk6.2 gb (blk_lt (show W5_.drew.heap[gb]? = _ from HR5.out)) (fun h => h.2 rfl)).trans HR5.out
      have hx6 : w6.cell? ⟨gb, 0, none⟩ = some (.string x.f0) := (blk_cell hr6 0).trans rfl
      refine hK.out _ _ hx6 (fun hHeld2 => ?_)
      clear hK K
      refine norm_ (a' := ?_) ?_ ?_
      rotate_left
      · simp only [Act.put, List.setIfInBounds_toArray, List.set_cons_zero, List.set_cons_succ, i64_w, i32_w]
        rfl
      obtain ⟨i0, hi0, hzz⟩ := info_parts info5
      obtain ⟨v7, w7, hrun7, hown7, hg7, _⟩ := Lib.run_append_own_string (P := Try.prog) w6 w.heap.size 41 9 41 5 i0 Try.underlying41 Try.underlying9 hi0 hzz.1 hzz.2.1 hzz.2.2 v6 b1.length (nums .u8 b1) (Kd.own_of_R ho6) x.f0 (by simp only [maxLen]; omega) (by omega) hb6.size
      have hne6 := Kd.R_ne ho6 hr6 (by decide)
      have hr7 := blk_grown hr6 hg7 hne6
      have hx7 : w7.cell? ⟨gb, 0, none⟩ = some (.string x.f0) := (blk_cell hr7 0).trans rfl
      have hx71 : w7.cell? ⟨gb, 1, none⟩ = some (.int .i64 x.f1) := (blk_cell hr7 1).trans rfl
      have hown8 : w7.ownsRow w.heap.size 5 1 v7 (b1 ++ bytesOf x.f0).length (nums .u8 (b1 ++ bytesOf x.f0)) := by
        have hl2 : (b1 ++ bytesOf x.f0).length = b1.length + x.f0.size := by rw [List.length_append, bytesOf_length]
        have hc : nums .u8 (b1 ++ bytesOf x.f0) = nums .u8 b1 ++ Lib.strCells x.f0 := by
          rw [nums_append]
          congr 1
          simp [nums, bytesOf, Lib.strCells]
        rw [hl2, hc]; exact hown7
      have HO7 := Lib.hid (Kd.R_of_own (h1 := fun _ => rfl) (ok := fun _ => True) hown8 (fun _ _ => trivial))
      have HB7 := Lib.hid (hb6.grown hg7 hb6.size (own_base (Kd.own_of_R ho6)))
      refine one_ (i := 7) (N := some 29) #[true, true, true, true, true, true, true, true, false] rfl rfl (by kernel_rfl) (by decide) (fun K hK => ?_)
      refine event_step (w1 := w7) (v := v7) rfl (by simp [execOp, resolve, invoke, builtin, Act.eval, hrun7, Result.andThen]) ?_
      refine hK.out _ _ hx7 (fun hHeld3 => ?_)
      clear hK K
      refine norm_ (a' := ?_) ?_ ?_
      rotate_left
      · simp only [Act.put, List.setIfInBounds_toArray, List.set_cons_zero, List.set_cons_succ, i64_w, i32_w]
        rfl
      refine pure_ (i := 8) (N := some 5) (v := v7) #[true, true, true, true, true, true, true, true, true] rfl rfl (by kernel_rfl) (fun _ _ _ h => h) (Or.inl ⟨by rfl, fun w' => by go_simp⟩) rfl ?_
      refine norm_ (a' := ?_) ?_ ?_
      rotate_left
      · simp only [Act.put, List.setIfInBounds_toArray, List.set_cons_zero, List.set_cons_succ, i64_w, i32_w]
        rfl
      refine done_ (by kernel_rfl) ?_
      clear hrun7 hown7 hg7 hne6 hr7 hx7 hown8 hHeld hHeld2 hHeld3 hx6 hr6 hk6 hb6 ho6 hapart
      go_wp2_with (go_at_call 65; refine (wire_Put.calls (fun _ => True) v7 (b1 ++ bytesOf x.f0) x.f1 b2 w _ HB7.out HO7.out B2.out).mono ?_; rintro e w8 ⟨v8, rfl, ho8, hb8, hk8⟩)
      go_roundg (l0.length + 1 - (i + 1))
      case measure => omega
      case rel => exact ⟨i + 1, b2, by omega, rfl, by go_num, HG2, Lib.hid (Kd.R_mono ho8 (fun _ _ => trivial)), Lib.hid hb8⟩
    · obtain rfl : i = l0.length := by omega
      have H := HG.out
      rw [List.drop_of_length_le (Nat.le_refl _), keys_Encode.go] at H
      obtain rfl := Option.some.inj H
      have d1 : decide ((l0.length : Int) < (l0.length : Int)) = false := decide_eq_false (by omega)
      have hcv := own_string (P := Try.prog) Try.underlying41 Try.underlying5 Try.underlying9 (Kd.own_of_R HO.out)
      go_wp2
      go_ret2
      exact ⟨rfl, HB.out⟩


-- PXIMPORT YtgcilfpoblijnaaGKey
/-! ### api_Key_78: function 78, by hand -/
def keys_one.f (k : Nat) (s : ByteArray) (why : Int) : Option (S91 × ByteArray × Int) :=
  (wire_Reader_Text.f k s why).bind fun t => (wire_Reader_Num.f t.2.1 t.2.2).bind fun u => some (⟨t.1, u.1⟩, u.2.1, u.2.2)
theorem keys_skip_ {P : Program} {ops : Array Oper} {o : Oper} {a : Act} {Kc : Act → World → Prop} {Q : Exit → Act → World → Prop} {W w1 : World} (hw : Region.wanted o (yielded ops a.tmps) = true) (hrun : (execOp a.eval o).run P W = .ok .skip w1) (h : Kc (a.put o.dst undef) w1) : if Region.wanted o (yielded ops a.tmps) = true then Oper.wp P o a W Kc Q else Kc (a.put o.dst undef) W := by
  rw [if_pos hw]
  unfold Oper.wp
  rw [hrun]
  exact h
set_option maxHeartbeats 800000 in
set_option maxRecDepth 100000 in
theorem keys_one.calls (k : Nat) (gp g : Nat) (s : ByteArray) (why : Int) (r1 : S91) (r2 : ByteArray) (r3 : Int) (w0 w : World) (hne : gp ≠ g) (hgp : gp < w.heap.size) (hp : w.cell? ⟨gp, 0, none⟩ = some (.pointer (some ⟨g, 0, none⟩)))
    (hI : IsS73 w0 w g s why) (hB : Below w0.heap.size w0 w) (h : keys_one.f k s why = some (r1, r2, r3)) :
    Calls Try.prog 79 #[.pointer (some ⟨gp, 0, none⟩)] w fun e w' => e = .returned (.agg #[.string r1.f0, .int .i64 r1.f1]) ∧ IsS73 w0 w' g r2 r3 ∧ Below w0.heap.size w0 w' ∧ KeepBut w w' g none := by
  have H := h; clear h
  unfold keys_one.f at H
  replace H := Option.bind_eq_some_iff.mp H
  obtain ⟨⟨t, s1, y1⟩, A1, H⟩ := H
  replace H := Option.bind_eq_some_iff.mp H
  obtain ⟨⟨x, s2, y2⟩, A2, H⟩ := H
  simp only [Option.some.injEq, Prod.mk.injEq] at H
  obtain ⟨rfl, rfl, rfl⟩ := H
  replace A1 := Lib.hid A1; replace A2 := Lib.hid A2
  have hu := Try.underlying91
  have HI := Lib.hid hI; have HB := Lib.hid hB; have HK := Lib.hid (KeepBut.refl w g none); clear hI hB
  go_enter Try.func79, Try.ntmps79
  go_wp2_with fail
  have hres : (w.alloc (.cells #[.string ⟨#[]⟩, .int .i64 0] 91)).heap[w.heap.size]? = some (.cells #[.string ⟨#[]⟩, .int .i64 0] 91 (0, 0)) := heap_alloc_new _ _
  have hpW : (w.alloc (.cells #[.string ⟨#[]⟩, .int .i64 0] 91)).cell? ⟨gp, 0, none⟩ = some (.pointer (some ⟨g, 0, none⟩)) := keep_cell (keep_alloc (KeepBut.refl w g none) _) hp hne
  have hI1 := HI.out.alloc (.cells #[.string ⟨#[]⟩, .int .i64 0] 91)
  have hB1 := below_alloc HB.out (.cells #[.string ⟨#[]⟩, .int .i64 0] 91)
  have hK1 := keep_alloc HK.out (.cells #[.string ⟨#[]⟩, .int .i64 0] 91)
  obtain ⟨gr, hgr⟩ : ∃ gr, gr = w.heap.size := ⟨_, rfl⟩
  have hgg : g ≠ gr := by have := HI.out.lt; omega
  rw [← hgr] at hres ⊢
  generalize w.alloc (.cells #[.string ⟨#[]⟩, .int .i64 0] 91) = W1 at *
  have HB0 := HB
  have HGR := Lib.hid hgr
  clear HI HB HK hgr
  refine start_ (n := 6) (S := fun w' => w'.cell? ⟨gp, 0, none⟩ = some (.pointer (some ⟨g, 0, none⟩))) (ds := []) #[false, false, false, false, false, false] (by kernel_rfl) rfl rfl hpW (fun hHeld => ?_)
  refine take_ (i := 0) (N := some 2) (v := .pointer (some ⟨g, 0, none⟩)) #[true, false, false, false, false, false] rfl rfl (by kernel_rfl) (fun _ _ _ h => h) (Or.inl ⟨by rfl, fun w' (hS : w'.cell? ⟨gp, 0, none⟩ = some (.pointer (some ⟨g, 0, none⟩))) => by go_simp⟩) hHeld rfl ?_
  refine take_ (i := 2) (N := some 4) (v := .pointer (some ⟨g, 0, none⟩)) #[true, false, true, false, false, false] rfl rfl (by kernel_rfl) (fun _ _ _ h => h) (Or.inl ⟨by rfl, fun w' (hS : w'.cell? ⟨gp, 0, none⟩ = some (.pointer (some ⟨g, 0, none⟩))) => by go_simp⟩) hHeld rfl ?_
  refine norm_ (a' := ?_) ?_ ?_
  rotate_left
  · simp only [Act.put, List.setIfInBounds_toArray, List.set_cons_zero, List.set_cons_succ, i64_w, i32_w]
    rfl
  refine one_ (i := 1) (N := some 3) #[true, true, true, false, false, false] rfl rfl (by kernel_rfl) (by decide) (fun K hK => ?_)
  refine call_ 62 #[.pointer (some ⟨g, 0, none⟩)] rfl rfl (by go_simp) ?_
  refine (wire_Reader_Text.calls k g s why _ _ _ w0 _ hI1.drew (below_drew1 hB1) A1.out).mono ?_
  rintro e w2 ⟨rfl, hi2, hb2, hk2⟩
  refine ⟨_, rfl, ?_⟩
  have hpW2 : w2.cell? ⟨gp, 0, none⟩ = some (.pointer (some ⟨g, 0, none⟩)) := keep_cell hk2 hHeld hne
  have hres2 := hk2.blk (show W1.drew.heap[gr]? = _ from hres) (fun e => hgg e.symm) (by simp)
  refine hK.out _ _ hpW2 (fun hHeld2 => ?_)
  clear hK K
  refine norm_ (a' := ?_) ?_ ?_
  rotate_left
  · simp only [Act.put, List.setIfInBounds_toArray, List.set_cons_zero, List.set_cons_succ, i64_w, i32_w]
    rfl
  refine one_ (i := 3) (N := some 5) #[true, true, true, true, false, false] rfl rfl (by kernel_rfl) (by decide) (fun K hK => ?_)
  refine call_ 72 #[.pointer (some ⟨g, 0, none⟩)] rfl rfl (by go_simp) ?_
  refine (wire_Reader_Num.calls g _ _ _ _ _ w0 _ hi2 hb2 A2.out).mono ?_
  rintro e w3 ⟨rfl, hi3, hb3, hk3⟩
  refine ⟨_, rfl, ?_⟩
  have hpW3 : w3.cell? ⟨gp, 0, none⟩ = some (.pointer (some ⟨g, 0, none⟩)) := keep_cell hk3 hHeld2 hne
  have hres3 := hk3.blk hres2 (fun e => hgg e.symm) (by simp)
  refine hK.out _ _ hpW3 (fun hHeld3 => ?_)
  clear hK K
  refine norm_ (a' := ?_) ?_ ?_
  rotate_left
  · simp only [Act.put, List.setIfInBounds_toArray, List.set_cons_zero, List.set_cons_succ, i64_w, i32_w]
    rfl
  refine pure_ (i := 4) (N := some 6) (v := .agg #[.string t, .int .i64 x]) #[true, true, true, true, true, false] rfl rfl (by kernel_rfl) (fun _ _ _ h => h) (Or.inl ⟨by rfl, fun w' => by go_simp⟩) rfl ?_
  refine norm_ (a' := ?_) ?_ ?_
  rotate_left
  · simp only [Act.put, List.setIfInBounds_toArray, List.set_cons_zero, List.set_cons_succ, i64_w, i32_w]
    rfl
  have hc0 : w3.cell? ⟨gr, 0, none⟩ = some (.string ⟨#[]⟩) := (blk_cell hres3 0).trans rfl
  have hc1 : w3.cell? ⟨gr, 1, none⟩ = some (.int .i64 0) := (blk_cell hres3 1).trans rfl
  have hf0 := blk_frozen hres3 0
  have hf1 := blk_frozen hres3 1
  refine one_ (i := 5) (N := none) #[true, true, true, true, true, true] rfl rfl (by kernel_rfl) (by decide) (fun K hK => ?_)
  refine keys_skip_ (w1 := (w3.setCell ⟨gr, 0, none⟩ (.string t)).setCell ⟨gr, 1, none⟩ (.int .i64 x)) rfl (by go_simp) ?_
  have hb4 := (hb3.setCell (p := ⟨gr, 0, none⟩) (show w0.heap.size ≤ gr by have := HB0.out.size; have := HGR.out; omega) (.string t)).setCell (p := ⟨gr, 1, none⟩) (show w0.heap.size ≤ gr by have := HB0.out.size; have := HGR.out; omega) (.int .i64 x)
  have hi4 := (hi3.far (p := ⟨gr, 0, none⟩) hgg (.string t)).far (p := ⟨gr, 1, none⟩) hgg (.int .i64 x)
  have hk4 : KeepBut w ((w3.setCell ⟨gr, 0, none⟩ (.string t)).setCell ⟨gr, 1, none⟩ (.int .i64 x)) g none := keep_far (keep_far ((hK1.trans (keep_drew hk2 : KeepBut W1 w2 g none) (.inl rfl)).trans hk3 (.inl rfl)) (p := ⟨gr, 0, none⟩) (by have := HGR.out; show w.heap.size ≤ gr; omega) _) (p := ⟨gr, 1, none⟩) (by have := HGR.out; show w.heap.size ≤ gr; omega) _
  have hr4 : ((w3.setCell ⟨gr, 0, none⟩ (.string t)).setCell ⟨gr, 1, none⟩ (.int .i64 x)).heap[gr]? = some (.cells #[.string t, .int .i64 x] 91 (0, 0)) := by
    rw [blk_set (blk_set hres3 0 _) 1 _]
    rfl
  generalize (w3.setCell ⟨gr, 0, none⟩ (.string t)).setCell ⟨gr, 1, none⟩ (.int .i64 x) = w4 at *
  have hpW4 : w4.cell? ⟨gp, 0, none⟩ = some (.pointer (some ⟨g, 0, none⟩)) := keep_cell hk4 hp hne
  refine hK.out _ _ hpW4 (fun hHeld4 => ?_)
  clear hK K
  refine norm_ (a' := ?_) ?_ ?_
  rotate_left
  · show Act.put _ none _ = _
    simp only [Act.put]
    rfl
  refine done_ (by kernel_rfl) ?_
  go_wp2
  refine bodyPost_ret (results_cell_row rfl _ _ gr 91 _ (0, 0) _ rfl hr4 Try.underlying91 rfl (by kernel_rfl)) rfl ?_
  exact ⟨rfl, hi4, hb4, hk4⟩
def wire_ListK.l0 : Nat → Int → ByteArray → Int → List S91 → Int → Option (List S91 × ByteArray × Int)
  | 0, _, _, _, _, _ => none
  | k + 1, n, s, why, out, i => if i < n then ((keys_one.f k s why).bind fun t => if t.2.2 = 0 then (if out.length < 5864062014805 then wire_ListK.l0 k n t.2.1 t.2.2 (out ++ [t.1]) (wrap64 (i + 1)) else none) else some ([], t.2.1, t.2.2)) else some (out, s, why)
def wire_ListK.f (k : Nat) (s : ByteArray) (why : Int) : Option (List S91 × ByteArray × Int) := (wire_Reader_Many.f s why 1024).bind fun t => wire_ListK.l0 k t.1 t.2.1 t.2.2 [] 0
theorem keys_one.mono (s : ByteArray) (why : Int) (k : Nat) : LeO (keys_one.f k s why) (keys_one.f (k + 1) s why) := LeO.bind (wire_Reader_Text.mono _ _ _) (fun _ => LeO.refl _)
theorem wire_ListK.mono_l : ∀ (k : Nat) n s why out i, LeO (wire_ListK.l0 k n s why out i) (wire_ListK.l0 (k + 1) n s why out i)
  | 0, _, _, _, _, _ => fun r h => by simp [wire_ListK.l0] at h
  | k + 1, n, s, why, out, i => by
    rw [wire_ListK.l0, wire_ListK.l0]
    refine LeO.ite (LeO.bind (keys_one.mono _ _ _) (fun t => LeO.ite (LeO.ite (wire_ListK.mono_l k _ _ _ _ _) (LeO.refl _)) (LeO.refl _))) (LeO.refl _)
theorem wire_ListK.mono (s : ByteArray) (why : Int) (k : Nat) : LeO (wire_ListK.f k s why) (wire_ListK.f (k + 1) s why) := LeO.bind (LeO.refl _) (fun t => wire_ListK.mono_l k _ _ _ _ _)
set_option maxHeartbeats 800000 in
set_option maxRecDepth 100000 in
theorem wire_ListK.calls (k : Nat) (gp g : Nat) (s : ByteArray) (why : Int) (r1 : List S91) (r2 : ByteArray) (r3 : Int) (w0 w : World) (hne : gp ≠ g) (hgp : gp < w.heap.size) (hp : w.cell? ⟨gp, 0, none⟩ = some (.pointer (some ⟨g, 0, none⟩)))
    (hI : IsS73 w0 w g s why) (hB : Below w0.heap.size w0 w) (h : wire_ListK.f k s why = some (r1, r2, r3)) :
    Calls Try.prog 78 #[.pointer (some ⟨g, 0, none⟩), .func (.func 79) #[] #[.pointer (some ⟨gp, 0, none⟩)]] w fun e w' => ∃ v0_ : Value, e = .returned v0_ ∧ Kd.R k91 91 w' w0.heap.size (fun k_ => k_ ≠ g) v0_ r1 ∧ IsS73 w0 w' g r2 r3 ∧ Below w0.heap.size w0 w' ∧ KeepBut w w' g none := by
  have H : ((wire_Reader_Many.f s why 1024).bind fun t => wire_ListK.l0 k t.1 t.2.1 t.2.2 [] 0) = some (r1, r2, r3) := h
  clear h
  replace H := Option.bind_eq_some_iff.mp H
  obtain ⟨⟨n, s1, y1⟩, A1, H⟩ := H
  replace A1 := Lib.hid A1
  have HH := Lib.hid H; clear H
  have HI := Lib.hid hI; have HB := Lib.hid hB; clear hI hB
  have hu := Try.underlying73
  have hu2 := Try.underlying91
  go_enter Try.func78, Try.ntmps78
  go_wp2_with (go_at_call 80; refine (wire_Reader_Many.calls g s why 1024 n s1 y1 w0 _ HI.out HB.out A1.out).mono ?_; rintro e w1 ⟨rfl, hi1, hb1, hk1⟩)
  have HI1 := Lib.hid hi1; have HB1 := Lib.hid hb1; have HK1 := Lib.hid hk1; clear hi1 hb1 hk1 HI HB
  go_loopg [5, 6, 9] k (fun kq v5 v6 v9 w' => ∃ (s2 : ByteArray) (y2 : Int) (out : List S91) (i : Int), v9 = .int .i64 i ∧ Hid (wire_ListK.l0 kq n s2 y2 out i = some (r1, r2, r3)) ∧ Hid (kq ≤ k) ∧ Hid (Kd.R k91 91 w' w0.heap.size (fun k_ => k_ ≠ g ∧ w.heap.size ≤ k_) v5 out) ∧ Hid (IsS73 w0 w' g s2 y2) ∧ Hid (Below w0.heap.size w0 w') ∧ Hid (KeepBut w w' g none))
  case atStart => exact ⟨s1, y1, [], 0, rfl, HH, Lib.hid (Nat.le_refl _), Lib.hid (Kd.R_nil _ _ _ _ _), HI1, HB1, HK1⟩
  case round =>
    clear HH HI1 HB1 HK1
    obtain ⟨s2, y2, out, i, rfl, HA, HK, HO, HI, HB, HKB⟩ := hrel
    cases gk with
    | zero => exact absurd HA.out (by simp [wire_ListK.l0])
    | succ k1 =>
      have H := HA.out
      clear HA
      simp only [wire_ListK.l0] at H
      have hgp2 : gp < wr.heap.size := Nat.lt_of_lt_of_le hgp (keep_size HKB.out)
      have hp2 : wr.cell? ⟨gp, 0, none⟩ = some (.pointer (some ⟨g, 0, none⟩)) := keep_cell HKB.out hp hne
      by_cases c1 : i < n
      · rw [if_pos c1] at H
        have c1b : decide (i < n) = true := decide_eq_true c1
        replace H := Option.bind_eq_some_iff.mp H
        obtain ⟨⟨x, s3, y3⟩, A2, H⟩ := H
        replace A2 := Lib.hid A2
        by_cases c2 : y3 = 0
        · simp only at H
          rw [if_pos c2] at H
          by_cases c3 : out.length < 5864062014805
          · rw [if_pos c3] at H
            subst c2
            have HH := Lib.hid H; clear H
            go_wp2_with (first | (go_at_call 79; refine (keys_one.calls k1 gp g s2 y2 x s3 0 w0 _ hne hgp2 hp2 HI.out HB.out A2.out).mono ?_; rintro e w3 ⟨rfl, hi3, hb3, hk3⟩; have HI3 := Lib.hid hi3; have HB3 := Lib.hid hb3; have HO3 := Lib.hid (Kd.R_keep HO.out hk3 (fun _ h => h.1)); have HK3 := Lib.hid (HKB.out.trans hk3 (.inl rfl)); clear hi3 hb3 hk3 HI HB HO HKB) | ((with_reducible refine gate_dst (N := 6) rfl ?_); refine box_event ?hg (N := 6) ?hd (cs := #[.string (⟨#[]⟩ : ByteArray), .int .i64 0]) (t := 91) ?hr ?_; (case hd => rfl); (case hg => rfl); (case hr => first | (go_simp; done) | (go_simp; rfl)); intro gb hgb w4 hbox hb4; have hcz0 : w4.cell? ⟨gb, 0, none⟩ = some (.string (⟨#[]⟩ : ByteArray)) := (blk_cell hbox 0).trans rfl; have hcz1 : w4.cell? ⟨gb, 1, none⟩ = some (.int .i64 0) := (blk_cell hbox 1).trans rfl; have hfz0 := blk_frozen hbox 0; have hfz1 := blk_frozen hbox 1; have hgg : g ≠ gb := (by have := HI3.out.lt; omega); have hbg : w0.heap.size ≤ gb := (by have := HB3.out.size; omega); refine keys_store_row rfl 91 (.tmp 6) (.tmp 12) rfl gb #[.string (⟨#[]⟩ : ByteArray), .int .i64 0] #[.string x.f0, .int .i64 x.f1] 91 rfl rfl hbox rfl (by kernel_rfl) (by intro v_ hv_; simp at hv_; rcases hv_ with rfl | rfl <;> rfl) ?_; have hr5 := setRow_heap w4 gb #[.string (⟨#[]⟩ : ByteArray), .int .i64 0] #[.string x.f0, .int .i64 x.f1] 91 (0, 0) hbox; have hB5 := keys_below_setRow (below_then HB3.out HB3.out.size hb4) hbg #[.string x.f0, .int .i64 x.f1]; have hsz5 : w4.heap.size ≤ (w4.setRow gb #[.string x.f0, .int .i64 x.f1]).heap.size := (by simp); have hsame : ∀ k_, k_ < w3.heap.size → (w4.setRow gb #[.string x.f0, .int .i64 x.f1]).heap[k_]? = w3.heap[k_]? := (fun k_ hk_ => (setRow_other w4 gb k_ _ (by omega)).trans (hb4.block k_ hk_)); have hI5 : IsS73 w0 (w4.setRow gb #[.string x.f0, .int .i64 x.f1]) g s3 0 := ⟨(hsame g HI3.out.lt).trans HI3.out.1, HI3.out.2⟩; generalize (w4.setRow gb #[.string x.f0, .int .i64 x.f1]) = W5_ at *; have hx0 : W5_.cell? ⟨gb, 0, none⟩ = some (.string x.f0) := (blk_cell hr5 0).trans rfl; have hx1 : W5_.cell? ⟨gb, 1, none⟩ = some (.int .i64 x.f1) := (blk_cell hr5 1).trans rfl; have HI5 := Lib.hid hI5; have hc5 := cellS73_1 hI5.1; have HB5 := Lib.hid hB5; have HO5 : Hid (Kd.R k91 91 W5_ w0.heap.size (fun k_ => k_ ≠ g ∧ w.heap.size ≤ k_) u5 out) := Lib.hid (Kd.R_step HO3.out (fun k_ _ hk_ => hsame k_ hk_)); have HK5 : Hid (KeepBut w W5_ g none) := Lib.hid ⟨Nat.le_trans (keep_size HK3.out) (Nat.le_trans hb4.size hsz5), fun j_ hj_ hjg_ _ => (hsame j_ (Nat.lt_of_lt_of_le hj_ (keep_size HK3.out))).trans (HK3.out.2 j_ hj_ hjg_ (by simp))⟩; clear hI5 hB5 hsz5; have HGB := Lib.hid hgb; clear hsame hbg hr5 hbox hb4 hgb hcz0 hcz1 hfz0 hfz1 HO3 HI3 HB3 HK3) | ((with_reducible refine gate_builtin (b := .append) (xs := #[.tmp 18, .tmp 20]) rfl ?_); at_builtin; refine Kd.R_append k91 (w0 := w0) w0.heap.size rfl (.tmp 18) (.tmp 20) 53 91 (.agg #[(.string ⟨#[]⟩), (.int .i64 0)]) 24 rfl Try.underlying53 info91 rfl (by decide) (by omega) u5 out x [.string x.f0, .int .i64 x.f1] (fun k_ => k_ ≠ g ∧ w.heap.size ≤ k_) (fun _ => False) rfl rfl (k91_mkM _ _ _ x) (fun _ hk => hk.elim) (fun k_ hk_ => ⟨HI5.out.fresh k_ hk_, Nat.le_trans (keep_size HK5.out) hk_⟩) HO5.out HB5.out HB5.out.size (by omega) ?_; intro v9 w9 ho hb hg hat))
            have HI9 := HI5.out.grown hg (HI5.out.own_ne HO5.out (by decide))
            have HK9 : KeepBut w w9 g none := by
              refine ⟨Nat.le_trans (keep_size HK5.out) hg.size, fun j hj hjg _ => ?_⟩
              rw [hg.block j (Nat.lt_of_lt_of_le hj (keep_size HK5.out)) (fun e => by have := (HO5.out.1 j e.symm).2; omega)]
              exact HK5.out.2 j hj hjg (by simp)
            go_roundg k1
            case measure => have := HK.out; omega
            case rel => exact ⟨s3, 0, out ++ [x], wrap64 (i + 1), rfl, HH, Lib.hid (by have := HK.out; omega), Lib.hid ho, Lib.hid HI9, Lib.hid hb, Lib.hid HK9⟩
          · rw [if_neg c3] at H; cases H
        · simp only at H
          rw [if_neg c2] at H
          have c2b : (y3 != 0) = true := bne_iff_ne.mpr c2
          simp only [Option.some.injEq, Prod.mk.injEq] at H
          obtain ⟨rfl, rfl, rfl⟩ := H
          go_wp2_with (first | (go_at_call 79; refine (keys_one.calls k1 gp g s2 y2 x s3 y3 w0 _ hne hgp2 hp2 HI.out HB.out A2.out).mono ?_; rintro e w3 ⟨rfl, hi3, hb3, hk3⟩; have HI3 := Lib.hid hi3; have HB3 := Lib.hid hb3; have HO3 := Lib.hid (Kd.R_keep HO.out hk3 (fun _ h => h.1)); have HK3 := Lib.hid (HKB.out.trans hk3 (.inl rfl)); clear hi3 hb3 hk3 HI HB HO HKB) | ((with_reducible refine gate_dst (N := 6) rfl ?_); refine box_event ?hg (N := 6) ?hd (cs := #[.string (⟨#[]⟩ : ByteArray), .int .i64 0]) (t := 91) ?hr ?_; (case hd => rfl); (case hg => rfl); (case hr => first | (go_simp; done) | (go_simp; rfl)); intro gb hgb w4 hbox hb4; have hcz0 : w4.cell? ⟨gb, 0, none⟩ = some (.string (⟨#[]⟩ : ByteArray)) := (blk_cell hbox 0).trans rfl; have hcz1 : w4.cell? ⟨gb, 1, none⟩ = some (.int .i64 0) := (blk_cell hbox 1).trans rfl; have hfz0 := blk_frozen hbox 0; have hfz1 := blk_frozen hbox 1; have hgg : g ≠ gb := (by have := HI3.out.lt; omega); have hbg : w0.heap.size ≤ gb := (by have := HB3.out.size; omega); refine keys_store_row rfl 91 (.tmp 6) (.tmp 12) rfl gb #[.string (⟨#[]⟩ : ByteArray), .int .i64 0] #[.string x.f0, .int .i64 x.f1] 91 rfl rfl hbox rfl (by kernel_rfl) (by intro v_ hv_; simp at hv_; rcases hv_ with rfl | rfl <;> rfl) ?_; have hr5 := setRow_heap w4 gb #[.string (⟨#[]⟩ : ByteArray), .int .i64 0] #[.string x.f0, .int .i64 x.f1] 91 (0, 0) hbox; have hB5 := keys_below_setRow (below_then HB3.out HB3.out.size hb4) hbg #[.string x.f0, .int .i64 x.f1]; have hsz5 : w4.heap.size ≤ (w4.setRow gb #[.string x.f0, .int .i64 x.f1]).heap.size := (by simp); have hsame : ∀ k_, k_ < w3.heap.size → (w4.setRow gb #[.string x.f0, .int .i64 x.f1]).heap[k_]? = w3.heap[k_]? := (fun k_ hk_ => (setRow_other w4 gb k_ _ (by omega)).trans (hb4.block k_ hk_)); have hI5 : IsS73 w0 (w4.setRow gb #[.string x.f0, .int .i64 x.f1]) g s3 y3 := ⟨(hsame g HI3.out.lt).trans HI3.out.1, HI3.out.2⟩; generalize (w4.setRow gb #[.string x.f0, .int .i64 x.f1]) = W5_ at *; have hx0 : W5_.cell? ⟨gb, 0, none⟩ = some (.string x.f0) := (blk_cell hr5 0).trans rfl; have hx1 : W5_.cell? ⟨gb, 1, none⟩ = some (.int .i64 x.f1) := (blk_cell hr5 1).trans rfl; have HI5 := Lib.hid hI5; have hc5 := cellS73_1 hI5.1; have HB5 := Lib.hid hB5; have HO5 : Hid (Kd.R k91 91 W5_ w0.heap.size (fun k_ => k_ ≠ g ∧ w.heap.size ≤ k_) u5 out) := Lib.hid (Kd.R_step HO3.out (fun k_ _ hk_ => hsame k_ hk_)); have HK5 : Hid (KeepBut w W5_ g none) := Lib.hid ⟨Nat.le_trans (keep_size HK3.out) (Nat.le_trans hb4.size hsz5), fun j_ hj_ hjg_ _ => (hsame j_ (Nat.lt_of_lt_of_le hj_ (keep_size HK3.out))).trans (HK3.out.2 j_ hj_ hjg_ (by simp))⟩; clear hI5 hB5 hsz5; have HGB := Lib.hid hgb; clear hsame hbg hr5 hbox hb4 hgb hcz0 hcz1 hfz0 hfz1 HO3 HI3 HB3 HK3))
          go_ret
          exact ⟨_, rfl, Kd.R_nil _ _ _ _ _, HI5.out, HB5.out, HK5.out⟩
      · rw [if_neg c1] at H
        have c1b : decide (i < n) = false := decide_eq_false c1
        simp only [Option.some.injEq, Prod.mk.injEq] at H
        obtain ⟨rfl, rfl, rfl⟩ := H
        go_wp2
        go_ret
        exact ⟨_, rfl, Kd.R_mono HO.out (fun _ h => h.1), HI.out, HB.out, HKB.out⟩

/-! ### keys_Decode: function 54, by hand -/
def keys_Decode.f (k : Nat) (a0 : ByteArray) : Option (List (S91) × ByteArray × Int) :=
  (wire_ListK.f k a0 0).bind fun t => if t.2.2 = 0 then (keys_Check.f k t.1).bind fun c => if c = 0 then some (t.1, t.2.1, 0) else some ([], ⟨#[]⟩, 7) else some ([], ⟨#[]⟩, 7)
theorem keys_Decode.mono : ∀ a0 k, LeO (keys_Decode.f k a0) (keys_Decode.f (k + 1) a0) := by
  intro a0 k
  unfold keys_Decode.f
  exact LeO.bind (wire_ListK.mono _ _ _) (fun _ => LeO.ite (LeO.bind (keys_Check.mono _ _) (fun _ => LeO.refl _)) (LeO.refl _))
set_option maxHeartbeats 800000 in
set_option maxRecDepth 100000 in
theorem keys_Decode.calls (k : Nat) (a0 : ByteArray) (r1 : List (S91)) (r2 : ByteArray) (r3 : Int) (w : World) (h : keys_Decode.f k a0 = some (r1, r2, r3)) :
    Calls Try.prog 54 #[.string a0] w fun e w' => ∃ v0_ : Value, e = .returned (.tuple #[v0_, .string r2, .int .i64 r3]) ∧ Kd.R k91 91 w' w.heap.size (fun _ => True) v0_ r1 ∧ Below w.heap.size w w' := by
  have H : ((wire_ListK.f k a0 0).bind fun t => if t.2.2 = 0 then (keys_Check.f k t.1).bind fun c => if c = 0 then some (t.1, t.2.1, 0) else some ([], ⟨#[]⟩, 7) else some ([], ⟨#[]⟩, 7)) = some (r1, r2, r3) := h
  clear h
  replace H := Option.bind_eq_some_iff.mp H
  obtain ⟨⟨l, s1, y1⟩, A1, H⟩ := H
  replace A1 := Lib.hid A1
  simp only at H
  have hI0 := (IsS73.new w w a0 0 (Below.refl _ _)).alloc (.cells #[.pointer (some ⟨w.heap.size, 0, none⟩)] 71)
  have hb0 := below_alloc (below_alloc (Below.refl w.heap.size w) (.cells #[.string a0, .int .i64 0] 73)) (.cells #[.pointer (some ⟨w.heap.size, 0, none⟩)] 71)
  have hp0 : ((w.alloc (.cells #[.string a0, .int .i64 0] 73)).alloc (.cells #[.pointer (some ⟨w.heap.size, 0, none⟩)] 71)).cell? ⟨w.heap.size + 1, 0, none⟩ = some (.pointer (some ⟨w.heap.size, 0, none⟩)) := by simp
  have hl0 : w.heap.size + 1 < ((w.alloc (.cells #[.string a0, .int .i64 0] 73)).alloc (.cells #[.pointer (some ⟨w.heap.size, 0, none⟩)] 71)).heap.size := by simp
  have hne : w.heap.size + 1 ≠ w.heap.size := by omega
  have hL := wire_ListK.calls k (w.heap.size + 1) w.heap.size a0 0 l s1 y1 w _ hne hl0 hp0 hI0 hb0 A1.out
  have HP0 := Lib.hid hp0
  clear hI0 hb0 hl0 hp0
  have hmf : ∀ (fn : Fn) (first cap : Array Value) (w : World), (Instr.makeFunc fn first cap).run Try.prog w = .ok (.func fn first cap) w := fun _ _ _ _ => rfl
  have hu := Try.underlying73
  have HH := Lib.hid H; clear H
  go_enter Try.func54, Try.ntmps54
  go_wp2_with (go_at_call 78; fail)
  refine hL.mono ?_
  rintro e w1 ⟨v1, rfl, ho, hi, hb, hk⟩
  have hp1 := keep_cell hk HP0.out hne
  obtain ⟨A2, c2, rfl, hl2, hC2⟩ := Kd.R_reads ho
  have hc0 := cellS73_0 hi.1
  have hc1 := cellS73_1 hi.1
  have hii := hi.1
  have HO := Lib.hid ho; have HC := Lib.hid hC2; have HB := Lib.hid hb
  clear ho hC2 hb hk hL HP0 hi
  generalize hgp : w.heap.size + 1 = gp at hp1 hne ⊢
  generalize hgg : w.heap.size = g at *
  simp only []
  have H := HH.out
  by_cases c1 : y1 = 0
  · rw [if_pos c1] at H
    subst c1
    replace H := Option.bind_eq_some_iff.mp H
    obtain ⟨c, A2_, H⟩ := H
    replace A2_ := Lib.hid A2_
    by_cases c2_ : c = 0
    · rw [if_pos c2_] at H
      subst c2_
      simp only [Option.some.injEq, Prod.mk.injEq] at H
      obtain ⟨rfl, rfl, rfl⟩ := H
      go_wp2_with (go_at_call 57; refine (keys_Check.calls k A2 c2 _ _ _ HC.out hl2 A2_.out).mono ?_; rintro e w2 ⟨rfl, hb2⟩)
      have hp2 := (hb2.cell (World.block_lt_of_cell? w1 _ hp1)).trans hp1
      have hc2 := (hb2.cell (World.block_lt_of_cell? w1 _ hc0)).trans hc0
      refine start_ (n := 8) (S := fun w' => w'.cell? ⟨gp, 0, none⟩ = some (.pointer (some ⟨g, 0, none⟩)) ∧ w'.cell? ⟨g, 0, none⟩ = some (.string s1)) (ds := []) #[false, false, false, false, false, false, false, false] (by kernel_rfl) rfl rfl ⟨hp2, hc2⟩ (fun hHeld => ?_)
      refine pure_ (i := 0) (N := some 23) (v := .slice A2 l.length c2) #[true, false, false, false, false, false, false, false] rfl rfl (by kernel_rfl) (fun _ _ _ h => h) (Or.inl ⟨by rfl, fun w' => by go_simp⟩) rfl ?_
      refine norm_ (a' := ?_) ?_ ?_
      rotate_left
      · simp only [Act.put, List.setIfInBounds_toArray, List.set_cons_zero, List.set_cons_succ, i64_w, i32_w]
        rfl
      refine take_ (i := 1) (N := some 24) (v := .pointer (some ⟨g, 0, none⟩)) #[true, true, false, false, false, false, false, false] rfl rfl (by kernel_rfl) (fun _ _ _ h => h) (Or.inl ⟨by rfl, fun w' (hS : w'.cell? ⟨gp, 0, none⟩ = some (.pointer (some ⟨g, 0, none⟩)) ∧ w'.cell? ⟨g, 0, none⟩ = some (.string s1)) => by obtain ⟨hS1, hS2⟩ := hS; go_simp⟩) hHeld rfl ?_
      refine norm_ (a' := ?_) ?_ ?_
      rotate_left
      · simp only [Act.put, List.setIfInBounds_toArray, List.set_cons_zero, List.set_cons_succ, i64_w, i32_w]
        rfl
      refine pure_ (i := 2) (N := some 25) (v := .pointer (some ⟨g, 0, none⟩)) #[true, true, true, false, false, false, false, false] rfl rfl (by kernel_rfl) (fun _ _ _ h => h) (Or.inl ⟨by rfl, fun w' => by go_simp⟩) rfl ?_
      refine norm_ (a' := ?_) ?_ ?_
      rotate_left
      · simp only [Act.put, List.setIfInBounds_toArray, List.set_cons_zero, List.set_cons_succ, i64_w, i32_w]
        rfl
      refine pure_ (i := 3) (N := some 26) (v := .pointer (some ⟨g, 0, none⟩)) #[true, true, true, true, false, false, false, false] rfl rfl (by kernel_rfl) (fun _ _ _ h => h) (Or.inl ⟨by rfl, fun w' => by go_simp⟩) rfl ?_
      refine norm_ (a' := ?_) ?_ ?_
      rotate_left
      · simp only [Act.put, List.setIfInBounds_toArray, List.set_cons_zero, List.set_cons_succ, i64_w, i32_w]
        rfl
      refine take_ (i := 4) (N := some 27) (v := .string s1) #[true, true, true, true, true, false, false, false] rfl rfl (by kernel_rfl) (fun _ _ _ h => h) (Or.inl ⟨by rfl, fun w' (hS : w'.cell? ⟨gp, 0, none⟩ = some (.pointer (some ⟨g, 0, none⟩)) ∧ w'.cell? ⟨g, 0, none⟩ = some (.string s1)) => by obtain ⟨hS1, hS2⟩ := hS; go_simp⟩) hHeld rfl ?_
      refine norm_ (a' := ?_) ?_ ?_
      rotate_left
      · simp only [Act.put, List.setIfInBounds_toArray, List.set_cons_zero, List.set_cons_succ, i64_w, i32_w]
        rfl
      refine pure_ (i := 5) (N := some 2) (v := .slice A2 l.length c2) #[true, true, true, true, true, true, false, false] rfl rfl (by kernel_rfl) (fun _ _ _ h => h) (Or.inl ⟨by rfl, fun w' => by go_simp⟩) rfl ?_
      refine norm_ (a' := ?_) ?_ ?_
      rotate_left
      · simp only [Act.put, List.setIfInBounds_toArray, List.set_cons_zero, List.set_cons_succ, i64_w, i32_w]
        rfl
      refine pure_ (i := 6) (N := some 3) (v := .string s1) #[true, true, true, true, true, true, true, false] rfl rfl (by kernel_rfl) (fun _ _ _ h => h) (Or.inl ⟨by rfl, fun w' => by go_simp⟩) rfl ?_
      refine norm_ (a' := ?_) ?_ ?_
      rotate_left
      · simp only [Act.put, List.setIfInBounds_toArray, List.set_cons_zero, List.set_cons_succ, i64_w, i32_w]
        rfl
      refine pure_ (i := 7) (N := some 4) (v := .int .i64 0) #[true, true, true, true, true, true, true, true] rfl rfl (by kernel_rfl) (fun _ _ _ h => h) (Or.inl ⟨by rfl, fun w' => by go_simp⟩) rfl ?_
      refine norm_ (a' := ?_) ?_ ?_
      rotate_left
      · simp only [Act.put, List.setIfInBounds_toArray, List.set_cons_zero, List.set_cons_succ, i64_w, i32_w]
        rfl
      refine done_ (by kernel_rfl) ?_
      go_wp2
      go_ret3
      rw [hgg]
      exact ⟨_, rfl, Kd.R_mono (Kd.R_drew (Kd.R_below HO.out hb2)) (fun _ _ => trivial), below_drew1 (below_then HB.out (by rw [← hgg]; exact HB.out.size) hb2)⟩
    · rw [if_neg c2_] at H
      simp only [Option.some.injEq, Prod.mk.injEq] at H
      obtain ⟨rfl, rfl, rfl⟩ := H
      have d2 : (c != 0) = true := bne_iff_ne.mpr c2_
      go_wp2_with (go_at_call 57; refine (keys_Check.calls k A2 c2 _ _ _ HC.out hl2 A2_.out).mono ?_; rintro e w2 ⟨rfl, hb2⟩)
      go_ret3
      rw [hgg]
      exact ⟨_, rfl, Kd.R_nil _ _ _ _ _, below_then HB.out (by rw [← hgg]; exact HB.out.size) hb2⟩
  · rw [if_neg c1] at H
    simp only [Option.some.injEq, Prod.mk.injEq] at H
    obtain ⟨rfl, rfl, rfl⟩ := H
    have d1 : (y1 != 0) = true := bne_iff_ne.mpr c1
    go_wp2
    go_ret3
    rw [hgg]
    exact ⟨_, rfl, Kd.R_nil _ _ _ _ _, HB.out⟩


/-! ### bellmanref28_Same: function 56 -/
def bellmanref28_Same.l0 : Nat → List (S91) → List (S91) → Int → Int → Option (Bool)
  | 0, _, _, _, _ => none
  | k + 1, x0, x1, x12, x13 => if x13 < x12 then (if 0 ≤ x13 then (if x13 < (x0.length : Int) then (if x13 < (x1.length : Int) then (if (!((((rd_T91 x0 x13).f0).toList) == (((rd_T91 x1 x13).f0).toList)) || (!(((rd_T91 x0 x13).f1) == ((rd_T91 x1 x13).f1)))) = true then (some false) else (bellmanref28_Same.l0 k x0 x1 x12 (wrap64 (x13 + 1)))) else (none)) else (none)) else (none)) else (some true)
def bellmanref28_Same.f (k : Nat) (l0 : List (S91)) (l1 : List (S91)) : Option (Bool) := if (l0.length : Int) = (l1.length : Int) then (bellmanref28_Same.l0 k l0 l1 (l0.length : Int) 0) else (some false)
theorem bellmanref28_Same.mono_l : ∀ k, (∀ y0 y1 y2 y3, LeO (bellmanref28_Same.l0 k y0 y1 y2 y3) (bellmanref28_Same.l0 (k + 1) y0 y1 y2 y3))
  | 0 => fun _ _ _ _ r h => by simp [bellmanref28_Same.l0] at h
  | k + 1 => by
    have ih0 := bellmanref28_Same.mono_l k
    · intro y0 y1 y2 y3
      unfold bellmanref28_Same.l0
      repeat' first
      | (with_reducible exact ih0 _ _ _ _)
      | (with_reducible exact LeO.refl _)
      | (with_reducible exact LeO.none _)
      | (with_reducible refine LeO.ite ?_ ?_)
      | (with_reducible refine LeO.bind ?_ (fun _ => ?_))
      | exact ih0 _ _ _ _
      | exact LeO.none _
      | refine LeO.ite ?_ ?_
      | refine LeO.bind ?_ (fun _ => ?_)
theorem bellmanref28_Same.mono : ∀ a0 a1 k, LeO (bellmanref28_Same.f k a0 a1) (bellmanref28_Same.f (k + 1) a0 a1) := by
  intro a0 a1 k
  have ih0 := bellmanref28_Same.mono_l k
  unfold bellmanref28_Same.f
  repeat' first
      | (with_reducible exact ih0 _ _ _ _)
      | (with_reducible exact LeO.refl _)
      | (with_reducible exact LeO.none _)
      | (with_reducible refine LeO.ite ?_ ?_)
      | (with_reducible refine LeO.bind ?_ (fun _ => ?_))
      | exact ih0 _ _ _ _
      | exact LeO.none _
      | refine LeO.ite ?_ ?_
      | refine LeO.bind ?_ (fun _ => ?_)
set_option maxHeartbeats 8000000 in
set_option maxRecDepth 100000 in
theorem bellmanref28_Same.calls (k : Nat) (A0 : Option Addr) (c0 : Nat) (l0 : List (S91)) (A1 : Option Addr) (c1 : Nat) (l1 : List (S91)) (r : Bool) (w : World) (hr0 : Kd.C k91 w A0 l0.length l0) (hc0 : l0.length ≤ c0) (hr1 : Kd.C k91 w A1 l1.length l1) (hc1 : l1.length ≤ c1) (h : bellmanref28_Same.f k l0 l1 = some r) :
    Calls Try.prog 56 #[.slice A0 l0.length c0, .slice A1 l1.length c1] w fun e w' => e = .returned (.bool r) ∧ Drawn0 w w' := by
  have hu91 := Try.underlying91
  have HR0 := Aside0.mk hr0
  have HC0 := Aside0.mk hc0
  clear hr0 hc0
  have HR1 := Aside0.mk hr1
  have HC1 := Aside0.mk hc1
  clear hr1 hc1
  have H : (if (l0.length : Int) = (l1.length : Int) then (bellmanref28_Same.l0 k l0 l1 (l0.length : Int) 0) else (some false)) = some r := h
  clear h
  by_cases c3 : (l0.length : Int) = (l1.length : Int)
  · rw [if_pos c3] at H
    have c3b0 : ((l0.length : Int) == (l1.length : Int)) = true := beq_iff_eq.mpr c3
    have c3b1 : ((l0.length : Int) != (l1.length : Int)) = false := bne_eq_false_iff_eq.mpr c3
    have c3b2 : (l0.length == l1.length) = true := by first | simpa using c3 | (simp at c3 ⊢; omega)
    clear c3
    have H' := Aside0.mk H
    clear H
    go_enter Try.func56, Try.ntmps56
    go_wp2
    repeat (go_quiet (fail); try go_wp2)
    go_loopg [13] k (fun kq v13 w' => ∃ (x13_1 : Int), v13 = .int .i64 x13_1 ∧ Aside0 (bellmanref28_Same.l0 kq l0 l1 (l0.length : Int) x13_1 = some r) ∧ Aside0 (kq ≤ k) ∧ Drawn0 w w')
    case atStart => exact ⟨(0), (by first | rfl | (simp; done) | (simp [*]; done)), H', ⟨Nat.le_refl _⟩, by repeat (first | exact Drawn0.refl _ | apply Drawn0.step)⟩
    case round =>
      clear H'
      try clear c1
      try clear p2
      try clear c3
      try clear c3b0
      try clear c3b1
      try clear c3b2
      obtain ⟨x13_1, rfl, HA, HK1, ⟨m1, rfl⟩⟩ := hrel
      cases gk with
      | zero => exact absurd HA.out (by simp [bellmanref28_Same.l0])
      | succ k1 =>
        have H := HA.out
        clear HA
        simp only [bellmanref28_Same.l0] at H
        by_cases c4 : x13_1 < (l0.length : Int)
        · rw [if_pos c4] at H
          have c4b0 : decide (x13_1 < (l0.length : Int)) = true := decide_eq_true c4
          clear c4
          by_cases c5 : 0 ≤ x13_1
          · rw [if_pos c5] at H
            have c5b0 : decide (0 ≤ x13_1) = true := decide_eq_true c5
            clear c5
            by_cases c6 : x13_1 < (l0.length : Int)
            · rw [if_pos c6] at H
              have c6b0 : decide (x13_1 < (l0.length : Int)) = true := decide_eq_true c6
              clear c6
              by_cases c7 : x13_1 < (l1.length : Int)
              · rw [if_pos c7] at H
                have c7b0 : decide (x13_1 < (l1.length : Int)) = true := decide_eq_true c7
                clear c7
                by_cases c8 : (!((((rd_T91 l0 x13_1).f0).toList) == (((rd_T91 l1 x13_1).f0).toList)) || (!(((rd_T91 l0 x13_1).f1) == ((rd_T91 l1 x13_1).f1)))) = true
                · rw [if_pos c8] at H
                  have c8b0 : (!((((rd_T91 l0 x13_1).f0).toList) == (((rd_T91 l1 x13_1).f0).toList)) || (!(((rd_T91 l0 x13_1).f1) == ((rd_T91 l1 x13_1).f1)))) = true := c8
                  clear c8
                  obtain rfl := Option.some.inj H
                  have p117 : 0 ≤ (x13_1 : Int) := of_decide_eq_true (by first | (with_reducible assumption) | assumption)
                  have q117 : x13_1 < (l0.length : Int) := of_decide_eq_true (by first | (with_reducible assumption) | assumption)
                  obtain ⟨ad117, e117, hx117_0, hx117_1⟩ := at_T91 HR0.out x13_1 p117 q117
                  cases e117
                  replace p117 := eq_true p117
                  replace q117 := eq_true q117
                  have p118 : 0 ≤ (x13_1 : Int) := of_decide_eq_true (by first | (with_reducible assumption) | assumption)
                  have q118 : x13_1 < (l1.length : Int) := of_decide_eq_true (by first | (with_reducible assumption) | assumption)
                  obtain ⟨ad118, e118, hx118_0, hx118_1⟩ := at_T91 HR1.out x13_1 p118 q118
                  cases e118
                  replace p118 := eq_true p118
                  replace q118 := eq_true q118
                  go_wp2
                  repeat (go_quiet (fail); try go_wp2)
                  go_ret
                  exact ⟨by first | rfl | (simp; done) | (simp [*]; done), by repeat (first | exact Drawn0.refl _ | apply Drawn0.step)⟩
                · rw [if_neg c8] at H
                  have c8b0 : (!((((rd_T91 l0 x13_1).f0).toList) == (((rd_T91 l1 x13_1).f0).toList)) || (!(((rd_T91 l0 x13_1).f1) == ((rd_T91 l1 x13_1).f1)))) = false := by simpa using c8
                  clear c8
                  have H' := Aside0.mk H
                  clear H
                  have p117 : 0 ≤ (x13_1 : Int) := of_decide_eq_true (by first | (with_reducible assumption) | assumption)
                  have q117 : x13_1 < (l0.length : Int) := of_decide_eq_true (by first | (with_reducible assumption) | assumption)
                  obtain ⟨ad117, e117, hx117_0, hx117_1⟩ := at_T91 HR0.out x13_1 p117 q117
                  cases e117
                  replace p117 := eq_true p117
                  replace q117 := eq_true q117
                  have p118 : 0 ≤ (x13_1 : Int) := of_decide_eq_true (by first | (with_reducible assumption) | assumption)
                  have q118 : x13_1 < (l1.length : Int) := of_decide_eq_true (by first | (with_reducible assumption) | assumption)
                  obtain ⟨ad118, e118, hx118_0, hx118_1⟩ := at_T91 HR1.out x13_1 p118 q118
                  cases e118
                  replace p118 := eq_true p118
                  replace q118 := eq_true q118
                  go_wp2
                  repeat (go_quiet (fail); try go_wp2)
                  go_roundg k1
                  case measure => have := HK1.out; omega
                  case rel => exact ⟨(wrap64 (x13_1 + 1)), (by first | rfl | (simp; done) | (simp [*]; done)), H', ⟨by have := HK1.out; omega⟩, by repeat (first | exact Drawn0.refl _ | apply Drawn0.step)⟩
              · rw [if_neg c7] at H
                exact absurd H (by simp)
            · rw [if_neg c6] at H
              exact absurd H (by simp)
          · rw [if_neg c5] at H
            exact absurd H (by simp)
        · rw [if_neg c4] at H
          have c4b0 : decide (x13_1 < (l0.length : Int)) = false := decide_eq_false c4
          clear c4
          obtain rfl := Option.some.inj H
          go_wp2
          repeat (go_quiet (fail); try go_wp2)
          go_ret
          exact ⟨by first | rfl | (simp; done) | (simp [*]; done), by repeat (first | exact Drawn0.refl _ | apply Drawn0.step)⟩
  · rw [if_neg c3] at H
    have c3b0 : ((l0.length : Int) == (l1.length : Int)) = false := beq_eq_false_iff_ne.mpr c3
    have c3b1 : ((l0.length : Int) != (l1.length : Int)) = true := bne_iff_ne.mpr c3
    have c3b2 : (l0.length == l1.length) = false := by first | simpa using c3 | (simp at c3 ⊢; omega)
    obtain rfl := Option.some.inj H
    go_enter Try.func56, Try.ntmps56
    go_wp2
    repeat (go_quiet (fail); try go_wp2)
    go_ret
    exact ⟨by first | rfl | (simp; done) | (simp [*]; done), by repeat (first | exact Drawn0.refl _ | apply Drawn0.step)⟩

end Go.Proofs.Ytgcilfpoblijnaa.XK
