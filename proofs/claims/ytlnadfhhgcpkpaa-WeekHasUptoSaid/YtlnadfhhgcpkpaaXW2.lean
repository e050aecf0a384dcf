-- by px.py, a program of this session, over the kit's printer: functions given by hand stand beside printed ones. Lean checks all of it.
import Derived.Test.YtlnadfhhgcpkpaaXW0
import Derived.Test.YtlnadfhhgcpkpaaGIdx
import Derived.Test.YtlnadfhhgcpkpaaGLayR
import Derived.Test.YtlnadfhhgcpkpaaGSort
import Derived.Test.YtlnadfhhgcpkpaaGLayR
namespace Go.Proofs.Ytlnadfhhgcpkpaa.XW
open Go.RowKit Go.Proofs.YtlnadfhhgcpkpaaW.PrintWords Go.Proofs.YtlnadfhhgcpkpaaW.PrintLast Go.Proofs.YtlnadfhhgcpkpaaW.PrintMore
attribute [local go_sem] max2_int min2_int max_two min_two max_three min_three max_four min_four   -- for this text's walks alone
set_option linter.unusedVariables false
set_option linter.unusedSimpArgs false

-- NOT PRINTED: function 35 (api_Range_35)

-- PXIMPORT YtlnadfhhgcpkpaaGIdx
-- PXIMPORT YtlnadfhhgcpkpaaGLayR
/-! ### api_Range_26: function 26, by hand -/
def week_R.enc (x : S38) : List Value := [.int .i64 x.f0, .int .i64 x.f1]
/-- A range that is out of the week. -/
def week_R.off (x : S38) : Bool := decide (x.f0 < 0) || (decide (x.f1 < 0) || (decide (10080 < x.f0) || decide (10080 < x.f1)))
def api_Range_26.f (l0 : List (S38)) : Option (Bool) := some (l0.any week_R.off)
set_option maxHeartbeats 400000 in
set_option maxRecDepth 100000 in
theorem week_R.off1 (x : S38) (W : World) : Calls Try.prog 27 #[.agg #[.int .i64 x.f0, .int .i64 x.f1]] W fun e w' => e = .returned (.bool (week_R.off x)) ∧ Below W.heap.size W w' := by
 have hb := (Below.refl W.heap.size W)
 have hu := Try.underlying38
 obtain ⟨q, hq⟩ : ∃ q, q = week_R.off x := ⟨_, rfl⟩
 rw [← hq]
 have HQ := Lib.hid hq; clear hq
 go_enter Try.func27, Try.ntmps27
 go_wp2
 all_goals
  go_ret
  refine ⟨?_, hb.alloc hb.size _⟩
  rw [HQ.out]
  unfold week_R.off
  show Ending.returned (Value.bool _) = Ending.returned (Value.bool _)
  congr 2
  rw [Bool.eq_iff_iff]
  simp
  omega
theorem api_Range_26.calls (A0 : Option Addr) (c0 : Nat) (l0 : List (S38)) (r : Bool) (w : World) (hr0 : Kd.C k38 w A0 l0.length l0) (hc0 : l0.length ≤ c0) (h : api_Range_26.f l0 = some r) :
  Calls Try.prog 26 #[.slice A0 l0.length c0, .func (.func 27) #[] #[]] w fun e w' => e = .returned (.bool r) ∧ Below w.heap.size w w' := by
 obtain rfl := Option.some.inj h
 haveI : Inhabited S38 := ⟨z38⟩
 have eg : ∀ args w, (callFunc 27 args).run Try.prog w = .ok (.enter 27 args) w := enters_of Try.func27 (by kernel_rfl) rfl
 exact gi_contains (d := k38) (enc := week_R.enc) Try.lay_has Try.isAgg38 Try.sizeOf38 (fun _ => rfl) (fun h => k38_open h) (by decide) week_R.off 27 #[] eg A0 c0 l0 w hr0 (fun W x hb => (week_R.off1 x W).mono (fun e w' ⟨he, hb'⟩ => ⟨he, below_then hb hb.size hb'⟩))


-- NOT PRINTED: function 47 (api_Range_47)

-- NOT PRINTED: function 57 (api_Range_57)

-- NOT PRINTED: function 48 (api_Range_48)

-- NOT PRINTED: function 55 (bits_Len32)

-- NOT PRINTED: function 56 (bits_Len64)

-- NOT PRINTED: function 45 (bits_Len)

-- NOT PRINTED: function 58 (slices_nextPowerOfTwo)

-- NOT PRINTED: function 59 (slices_xorshift_Next)

-- NOT PRINTED: function 49 (api_Range_49)

-- NOT PRINTED: function 62 (api_Range_62)

-- NOT PRINTED: function 61 (api_Range_61)

-- NOT PRINTED: function 60 (api_Range_60)

-- NOT PRINTED: function 50 (api_Range_50)

-- NOT PRINTED: function 51 (api_Range_51)

-- NOT PRINTED: function 52 (api_Range_52)

-- NOT PRINTED: function 53 (api_Range_53)

-- NOT PRINTED: function 54 (api_Range_54)

-- NOT PRINTED: function 44 (api_Range_44)

-- PXIMPORT YtlnadfhhgcpkpaaGSort
-- PXIMPORT YtlnadfhhgcpkpaaGLayR
/-! ### api_Range_39: function 39, by hand -/
def week_S.enc (x : S38) : List Value := [.int .i64 x.f0, .int .i64 x.f1]
def week_S.cf (x y : S38) : Int := Lib.compareInt x.f0 y.f0
/-- The library's sort, by where ranges begin. -/
def week_S.pdq (l : List (S38)) : Array (S38) := @Go.Sort.pdq (S38) ⟨z38⟩ (ltOf week_S.cf) l.toArray 0 l.toArray.size (Lib.bitLen l.toArray.size) true true
def week_S.srt (l : List (S38)) : List (S38) := if l.length = 0 then [] else (week_S.pdq l).toList
def api_Range_39.f (l0 : List (S38)) : Option (List (S38)) := if l0.length < 4611686018427387904 then some (week_S.srt l0) else none
theorem week_S.lt_eq (x y : S38) : ltOf week_S.cf x y = decide (x.f0 < y.f0) := by
 unfold ltOf week_S.cf Lib.compareInt
 by_cases h1 : x.f0 < y.f0
 ·simp [h1]
 ·by_cases h2 : y.f0 < x.f0 <;> simp [h1, h2]
theorem week_S.swo : Go.Sort.SWO (ltOf week_S.cf) where
 irrefl x := by rw [week_S.lt_eq]; simp
 trans x y z h1 h2 := by rw [week_S.lt_eq] at *; simp at *; omega
 ntrans x y z h1 h2 := by rw [week_S.lt_eq] at *; simp at *; omega
theorem week_S.sorts (l : List (S38)) : @Go.Sort.PermIn (S38) ⟨z38⟩ 0 l.toArray.size l.toArray (week_S.pdq l) ∧ @Go.Sort.SortedIn (S38) ⟨z38⟩ (ltOf week_S.cf) 0 l.toArray.size (week_S.pdq l) := by
 letI : Inhabited S38 := ⟨z38⟩
 unfold week_S.pdq
 exact Go.Sort.pdq_sorts (ltOf week_S.cf) week_S.swo l.toArray 0 l.toArray.size (Lib.bitLen l.toArray.size) true true (Nat.zero_le _) (Nat.le_refl _) (Or.inl rfl)
theorem week_S.size (l : List (S38)) : (week_S.pdq l).size = l.length := (week_S.sorts l).1.1
set_option maxHeartbeats 1000000 in
set_option maxRecDepth 100000 in
theorem week_S.cmp1 (x y : S38) (W : World) : Calls Try.prog 40 #[.agg #[.int .i64 x.f0, .int .i64 x.f1], .agg #[.int .i64 y.f0, .int .i64 y.f1]] W fun e w' => e = .returned (.int .i64 (week_S.cf x y)) ∧ ∃ q os', w' = Go.Sort.grow (W.drewN q) os' := by
 have hcon := fun W' => AnyG.cmp_Compare_int Try.lay_cmp x.f0 y.f0 W'
 change ∀ W', Calls Try.prog 41 _ _ _ at hcon
 unfold week_S.cf
 generalize Lib.compareInt x.f0 y.f0 = r at hcon ⊢
 go_enter Try.func40, Try.ntmps40
 go_wp2_with (go_at_call 41; refine (hcon _).mono ?_; rintro e w' ⟨rfl, rfl⟩)
 go_ret
 exact ⟨rfl, 0, _, by rw [Go.Sort.alloc_eq_grow, Go.Sort.alloc_eq_grow, Go.Sort.grow_grow]; rfl⟩
theorem api_Range_39.calls (P0_ : Nat → Prop) (u9000_ : Value) (l0 : List (S38)) (r : List (S38)) (w0 w : World) (hB : Below w0.heap.size w0 w) (ho0 : Kd.R k38 38 w w0.heap.size P0_ u9000_ l0) (h : api_Range_39.f l0 = some r) :
  Calls Try.prog 39 #[u9000_, .func (.func 40) #[] #[]] w fun e w' => e = .returned (.tuple #[]) ∧ Kd.R k38 38 w' w0.heap.size (fun k_ => (P0_ k_ ∨ w.heap.size ≤ k_)) u9000_ r ∧ Below w0.heap.size w0 w' ∧ Kept w w' (fun k_ => P0_ k_) := by
 letI : Inhabited S38 := ⟨z38⟩
 unfold api_Range_39.f at h
 split at h
 rotate_left
 ·cases h
 rename_i hsz
 obtain rfl := Option.some.inj h
 clear h
 have hO := ho0
 obtain ⟨hok, inner, ⟨hlen, hor⟩, hreps⟩ := ho0
 rcases hor with ⟨rfl, h0⟩ | ⟨g, cap, cur, rfl, hg, hrow, hnc, hcm, hcs, htake⟩
 ·obtain rfl : l0 = [] := List.eq_nil_of_length_eq_zero h0
  refine (AnyF.slices_SortFunc_none Try.lay_sort none 0 _ w).mono ?_
  rintro e w' ⟨rfl, rfl⟩
  exact ⟨rfl, Kd.R_nil _ _ _ _ _, hB, Kept.refl _ _⟩
 ·by_cases h0 : l0.length = 0
  ·obtain rfl : l0 = [] := List.eq_nil_of_length_eq_zero h0
   refine (AnyF.slices_SortFunc_none Try.lay_sort (some ⟨g, 0, none⟩) cap _ w).mono ?_
   rintro e w' ⟨rfl, rfl⟩
   exact ⟨rfl, Kd.R_mono hO (fun _ hk => .inl hk), hB, Kept.refl _ _⟩
  ·have hP : P0_ g := hok g (by simp [Value.ownBlock])
   have hH : Go.Sort.HoldsK week_S.enc 2 w g 0 l0.toArray := gs_holds (fun p c hp => k38_openM hp) hreps hrow htake
   have hblk : g < w.heap.size := (Array.getElem?_eq_some_iff.mp hrow).1
   have eg : ∀ args w, (callFunc 40 args).run Try.prog w = .ok (.enter 40 args) w := enters_of Try.func40 (by kernel_rfl) rfl
   have hcon := AnyQ.slices_SortFunc_eq Try.lay_sort 2 Try.isAgg38 Try.sizeOf38 week_S.enc (fun _ => rfl) (fun x v hv => by simp [week_S.enc] at hv; rcases hv with rfl | rfl <;> rfl) week_S.cf week_S.swo 40 #[] g 0 cap l0.toArray w eg (fun _ _ _ _ x y => week_S.cmp1 x y _) hH hblk hsz
   refine hcon.mono ?_
   rintro e w' ⟨rfl, n, os, hw⟩
   obtain ⟨h1, h2, h3⟩ := gs_done (d := k38) (enc := week_S.enc) (fun _ => rfl) (fun x w base ok => k38_mkM w base ok x) hB hg hP hrow hnc hcm hcs (week_S.size l0) hw
   unfold week_S.srt
   rw [if_neg h0]
   exact ⟨rfl, Kd.R_mono h1 (fun _ hk => .inl hk), h2, h3⟩


end Go.Proofs.Ytlnadfhhgcpkpaa.XW
-- squeezed
