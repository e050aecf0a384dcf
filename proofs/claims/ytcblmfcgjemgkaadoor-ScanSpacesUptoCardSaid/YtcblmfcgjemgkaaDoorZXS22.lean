-- by px.py, a program of this session, over the kit's printer: functions given by hand stand beside printed ones. Lean checks all of it.
import Derived.Test.YtcblmfcgjemgkaaDoorZXS0
import Derived.Test.YtcblmfcgjemgkaaDoorZXS4
import Derived.Test.YtcblmfcgjemgkaaDoorZXS12
import Derived.Test.YtcblmfcgjemgkaaDoorZXS14
import Derived.Test.YtcblmfcgjemgkaaDoorZXS15
import Derived.Test.YtcblmfcgjemgkaaDoorZGMax
import Derived.Test.YtcblmfcgjemgkaaDoorZGA
namespace Go.Proofs.YtcblmfcgjemgkaaDoor.XS
open Go.RowKit Go.Proofs.YtcblmfcgjemgkaaDoorW.PrintWords Go.Proofs.YtcblmfcgjemgkaaDoorW.PrintLast Go.Proofs.YtcblmfcgjemgkaaDoorW.PrintMore
attribute [local go_sem] max2_int min2_int max_two min_two max_three min_three max_four min_four   -- for this text's walks alone
set_option linter.unusedVariables false
set_option linter.unusedSimpArgs false
def ss_kind (a1 : Int) : Int := if a1 % 3 = 0 then 2 else if a1 % 3 = 1 then 3 else 5
def ss_gap (a : Int) : ByteArray := (⟨#[32, 32, 32, 32, 32, 32, 32, 32, 32, 32, 32, 32, 32, 32, 32, 32]⟩ : ByteArray).extract 0 (a % 16).toNat
def ss_word (l : List ByteArray) : Nat → ByteArray
 | 0 => (⟨#[]⟩ : ByteArray)
 | i + 1 => (if 0 < i then ss_word l i ++ (⟨#[46]⟩ : ByteArray) else ss_word l i) ++ rdOf ByteArray.empty l (i : Int)
def ss_want (l : List ByteArray) (a1 : Int) : S40 := ⟨ss_kind a1, (⟨#[]⟩ : ByteArray), l⟩
def ss_head (a1 a2 a3 : Int) : ByteArray :=
 if a1 % 3 = 0 then (⟨#[123, 123]⟩ : ByteArray) ++ ss_gap a2
 else if a1 % 3 = 1 then ((⟨#[123, 123]⟩ : ByteArray) ++ ss_gap a2) ++ ((⟨#[105, 102, 32]⟩ : ByteArray) ++ ss_gap a3)
 else ((⟨#[123, 123]⟩ : ByteArray) ++ ss_gap a2) ++ ((⟨#[101, 97, 99, 104, 32]⟩ : ByteArray) ++ ss_gap a3)
def ss_text (l : List ByteArray) (a1 a2 a3 a4 : Int) : ByteArray := ((ss_head a1 a2 a3 ++ ss_word l l.length) ++ ss_gap a4) ++ (⟨#[125, 125]⟩ : ByteArray)
def ss_small (l : List ByteArray) : Prop := (l.map fun x => x.size + 1).sum ≤ 140737488351232
instance (l : List ByteArray) : Decidable (ss_small l) := by unfold ss_small; infer_instance
def ss_u8 (a : Int) : Prop := 0 ≤ a ∧ a < 256
instance (a : Int) : Decidable (ss_u8 a) := by unfold ss_u8; infer_instance
def bellmanlaw10_ScanSpaces.f (k : Nat) (l0 : List ByteArray) (a1 a2 a3 a4 : Int) : Option Bool :=
 (bellmanlaw10_lives.f k).bind fun t => if t = true then
  (if (ss_u8 a1 ∧ ss_u8 a2) ∧ (ss_u8 a3 ∧ ss_u8 a4) ∧ ss_small l0 then
   (scan_Check.f k [ss_want l0 a1]).bind fun c => if c = 0 then
    (scan_Tokens.f k (ss_text l0 a1 a2 a3 a4)).bind fun p => if p.2 = 0 then bellmanref10_Same.f k p.1 [ss_want l0 a1] else some false
   else some true
  else none) else none
theorem ss_gap_size (a : Int) : (ss_gap a).size ≤ 15 := by
 unfold ss_gap
 rw [ByteArray.size_extract]
 have : (a % 16).toNat ≤ 15 := by omega
 have : (⟨#[32, 32, 32, 32, 32, 32, 32, 32, 32, 32, 32, 32, 32, 32, 32, 32]⟩ : ByteArray).size = 16 := rfl
 omega
theorem ss_word_size (l : List ByteArray) : ∀ i, i ≤ l.length → (ss_word l i).size ≤ ((l.take i).map fun x => x.size + 1).sum
 | 0, _ => by
  rw [ss_word]
  exact Nat.zero_le _
 | i + 1, h => by
  have ih := ss_word_size l i (by omega)
  have hi : i < l.length := by omega
  have e : rdOf ByteArray.empty l (i : Int) = l[i] := by unfold rdOf; rw [Int.toNat_natCast, List.getD_eq_getElem?_getD, List.getElem?_eq_getElem hi]; rfl
  rw [List.take_succ_eq_append_getElem hi, List.map_append, List.sum_append, ss_word, e, ByteArray.size_append]
  have one : (⟨#[46]⟩ : ByteArray).size = 1 := rfl
  simp only [List.map_cons, List.map_nil, List.sum_cons, List.sum_nil]
  split
  ·rw [ByteArray.size_append]; omega
  ·omega
theorem ss_take_sum (l : List ByteArray) (i : Nat) : ((l.take i).map fun x => x.size + 1).sum ≤ (l.map fun x => x.size + 1).sum := by
 conv => rhs; rw [← List.take_append_drop i l]
 rw [List.map_append, List.sum_append]
 omega
theorem ss_one {w : World} {b c : Nat} {A : Option Addr} {t : S40} (hrow : w.heap[b]? = some (.cells #[.int .u8 t.f0, .string t.f1, .slice A t.f2.length c] 40 (0, 0))) (hc : t.f2.length ≤ c) (hC : Kd.C Kd.string w A t.f2.length t.f2) : Kd.C k40 w (some ⟨b, 0, none⟩) [t].length [t] := by
 refine ⟨rfl, by rw [List.length_singleton]; decide, fun _ => ⟨_, rfl, fun j p hj => ?_⟩⟩
 cases j with
 | succ j => cases hj
 | zero =>
  cases hj
  refine ⟨[.int .u8 t.f0, .string t.f1, .slice A t.f2.length c], rfl, k40_mk w t hc hC, fun i u hu => ?_⟩
  have h := blk_cell hrow i
  rw [List.getElem?_toArray, hu] at h
  have e : (⟨b, 0, none⟩ : Addr).add (0 * k40.sz + i) = ⟨b, i, none⟩ := by rw [Nat.zero_mul, Nat.zero_add]; cases i <;> simp [Addr.add]
  rw [e]
  exact h
theorem ss_word_le {l : List ByteArray} (h : ss_small l) (i : Nat) (hi : i ≤ l.length) : (ss_word l i).size ≤ 140737488351232 := by
 have h1 := ss_word_size l i hi
 have h2 := ss_take_sum l i
 unfold ss_small at h
 omega
theorem ss_over {a b : ByteArray} (h : (a ++ b).size ≤ 140737488351232) : ¬ 9223372036854775807 < a.size + b.size := by rw [ByteArray.size_append] at h; omega
theorem ss_over1 {a b : ByteArray} (h : ((a ++ (⟨#[46]⟩ : ByteArray)) ++ b).size ≤ 140737488351232) : ¬ 9223372036854775807 < a.size + 1 := by rw [ByteArray.size_append, ByteArray.size_append] at h; have : (⟨#[46]⟩ : ByteArray).size = 1 := rfl; omega
theorem ss_over2 {a b : ByteArray} (h : ((a ++ (⟨#[46]⟩ : ByteArray)) ++ b).size ≤ 140737488351232) : ¬ 9223372036854775807 < a.size + 1 + b.size := by rw [ByteArray.size_append, ByteArray.size_append] at h; have : (⟨#[46]⟩ : ByteArray).size = 1 := rfl; omega
theorem ss_meas {i n : Nat} (h : i < n) : n - (intOf (.int .i64 ((i + 1 : Nat) : Int))).toNat < n - (intOf (.int .i64 (i : Int))).toNat := by simp only [intOf]; omega
theorem ss_mod (a : Int) : 0 ≤ a % 16 ∧ a % 16 ≤ 16 := by omega
theorem ss_kind3 (a1 a2 a3 : Int) : ((ss_kind a1 == 3) = false ∧ (ss_kind a1 == 5) = false ∧ ss_head a1 a2 a3 = (⟨#[123, 123]⟩ : ByteArray) ++ ss_gap a2) ∨ ((ss_kind a1 == 3) = true ∧ (ss_kind a1 == 5) = false ∧ ss_head a1 a2 a3 = ((⟨#[123, 123]⟩ : ByteArray) ++ ss_gap a2) ++ ((⟨#[105, 102, 32]⟩ : ByteArray) ++ ss_gap a3)) ∨ ((ss_kind a1 == 3) = false ∧ (ss_kind a1 == 5) = true ∧ ss_head a1 a2 a3 = ((⟨#[123, 123]⟩ : ByteArray) ++ ss_gap a2) ++ ((⟨#[101, 97, 99, 104, 32]⟩ : ByteArray) ++ ss_gap a3)) := by
 unfold ss_kind ss_head
 rcases (show a1 % 3 = 0 ∨ a1 % 3 = 1 ∨ a1 % 3 = 2 by omega) with h | h | h
 ·rw [h]; exact .inl ⟨rfl, rfl, rfl⟩
 ·rw [h]; exact .inr (.inl ⟨rfl, rfl, rfl⟩)
 ·rw [h]; exact .inr (.inr ⟨rfl, rfl, rfl⟩)
theorem ss_fold (a : Int) : (⟨#[32, 32, 32, 32, 32, 32, 32, 32, 32, 32, 32, 32, 32, 32, 32, 32]⟩ : ByteArray).extract 0 (a % 16).toNat = ss_gap a := rfl
theorem ss_head_size (a1 a2 a3 : Int) : (ss_head a1 a2 a3).size ≤ 37 := by
 have z2 := ss_gap_size a2
 have z3 := ss_gap_size a3
 have e1 : (⟨#[123, 123]⟩ : ByteArray).size = 2 := rfl
 have e2 : (⟨#[105, 102, 32]⟩ : ByteArray).size = 3 := rfl
 have e3 : (⟨#[101, 97, 99, 104, 32]⟩ : ByteArray).size = 5 := rfl
 rcases ss_kind3 a1 a2 a3 with ⟨_, _, h⟩ | ⟨_, _, h⟩ | ⟨_, _, h⟩
 all_goals
  rw [h]
  simp only [ByteArray.size_append]
  omega
theorem ss_o1 {a b : ByteArray} (h1 : a.size ≤ 37) (h2 : b.size ≤ 140737488351232) : ¬ 9223372036854775807 < a.size + b.size := by omega
theorem ss_o2 {a b : ByteArray} (h1 : a.size ≤ 37) (h2 : b.size ≤ 140737488351232) (c : Int) : ¬ 9223372036854775807 < a.size + b.size + (c % 16).toNat := by omega
theorem ss_o3 {a b : ByteArray} (h1 : a.size ≤ 37) (h2 : b.size ≤ 140737488351232) (c : Int) : ¬ 9223372036854775807 < a.size + b.size + (c % 16).toNat + 2 := by omega
theorem ss_step {i n : Nat} (h : i < n) (hn : n ≤ 9223372036854775807) : wrap64 ((i : Int) + 1) = ((i + 1 : Nat) : Int) := by unfold wrap64; omega
set_option maxHeartbeats 4000000 in
set_option maxRecDepth 100000 in
theorem bellmanlaw10_ScanSpaces.calls (k : Nat) (A0 : Option Addr) (c0 : Nat) (l0 : List ByteArray) (a1 : Int) (a2 : Int) (a3 : Int) (a4 : Int) (r : Bool) (w : World) (hr0 : Kd.C Kd.string w A0 l0.length l0) (hc0 : l0.length ≤ c0) (h : bellmanlaw10_ScanSpaces.f k l0 a1 a2 a3 a4 = some r) (HG : GM w) :
  Calls Tryd.prog 7 #[.slice A0 l0.length c0, .int .u8 a1, .int .u8 a2, .int .u8 a3, .int .u8 a4] w fun e w' => e = .returned (.bool r) ∧ Below w.heap.size w w' := by
 have hu := Tryd.underlying40
 unfold bellmanlaw10_ScanSpaces.f at h
 obtain ⟨t, hl, h⟩ := Option.bind_eq_some_iff.mp h
 have HL := Lib.hid (bellmanlaw10_lives.calls k t w hl HG)
 have HR := Lib.hid hr0
 have HC := Lib.hid hc0
 have HGG := Lib.hid HG
 clear hl hr0 hc0 HG
 cases t with
 | false => cases h
 | true =>
  rw [if_pos rfl] at h
  split at h
  rotate_left
  ·cases h
  rename_i hg
  obtain ⟨⟨⟨u1, v1⟩, ⟨u2, v2⟩⟩, ⟨⟨u3, v3⟩, ⟨u4, v4⟩⟩, hsm⟩ := hg
  obtain ⟨c, hch, h⟩ := Option.bind_eq_some_iff.mp h
  have HS := Lib.hid hsm
  have HH := Lib.hid h
  have HCH := Lib.hid hch
  clear hsm h hch
  have m1 : Int.tmod a1 3 = a1 % 3 := Int.tmod_eq_emod_of_nonneg u1
  have m2 : Int.tmod a2 16 = a2 % 16 := Int.tmod_eq_emod_of_nonneg u2
  have m3 : Int.tmod a3 16 = a3 % 16 := Int.tmod_eq_emod_of_nonneg u3
  have m4 : Int.tmod a4 16 = a4 % 16 := Int.tmod_eq_emod_of_nonneg u4
  go_enter Tryd.func7, Tryd.ntmps7
  go_upto_region 3 with (first | (go_at_call 12; refine HL.out.mono ?_; rintro e w1 ⟨rfl, hb1⟩; have HB1 := Lib.hid hb1; clear hb1))
  go_cut [11] (fun v11 wc => v11 = .int .u8 (ss_kind a1) ∧ Hid (Below w.heap.size w wc))
  case first =>
   rcases (show a1 % 3 = 0 ∨ a1 % 3 = 1 ∨ a1 % 3 = 2 by omega) with hm | hm | hm
   all_goals
    rw [hm] at m1
    have HKK := Lib.hid (show ss_kind a1 = if a1 % 3 = 0 then 2 else if a1 % 3 = 1 then 3 else 5 from rfl)
    go_wp2
    go_meet
    case rel => exact ⟨by rw [HKK.out, hm]; rfl, Lib.hid (by first | exact HB1.out | exact below_alloc HB1.out _ | (trace_state; sorry))⟩
  case rest =>
   obtain ⟨rfl, HB2⟩ := hcut
   clear HL HB1
   go_upto_region 5 with fail
   obtain ⟨b, hb⟩ : ∃ b, b = wc.heap.size := ⟨_, rfl⟩
   have hwb : w.heap.size ≤ b := by rw [hb]; exact HB2.out.size
   have HROW := Lib.hid (show (wc.alloc (.cells #[.int .u8 (ss_kind a1), .string (⟨#[]⟩ : ByteArray), .slice A0 l0.length c0] 40)).heap[b]? = some (.cells #[.int .u8 (ss_kind a1), .string (⟨#[]⟩ : ByteArray), .slice A0 l0.length c0] 40 (0, 0)) from by rw [hb]; exact heap_alloc_new _ _)
   have HB3 := Lib.hid (below_alloc HB2.out (.cells #[.int .u8 (ss_kind a1), .string (⟨#[]⟩ : ByteArray), .slice A0 l0.length c0] 40))
   rw [← hb]
   generalize wc.alloc (.cells #[.int .u8 (ss_kind a1), .string (⟨#[]⟩ : ByteArray), .slice A0 l0.length c0] 40) = w3 at HROW HB3 ⊢
   clear hb HB2
   have x0 := (blk_cell HROW.out 0).trans rfl
   have x1 := (blk_cell HROW.out 1).trans rfl
   have x2 := (blk_cell HROW.out 2).trans rfl
   have HB4 := Lib.hid (below_alloc HB3.out (.cells #[.int .u8 (ss_kind a1), .string (⟨#[]⟩ : ByteArray), .slice A0 l0.length c0] 40))
   have HROW4 := Lib.hid ((((Below.refl _ w3).alloc (Nat.le_refl _) (.cells #[.int .u8 (ss_kind a1), .string (⟨#[]⟩ : ByteArray), .slice A0 l0.length c0] 40)).block b (blk_lt HROW.out)).trans HROW.out)
   have HCK := Lib.hid (scan_Check.calls k (some ⟨w3.heap.size, 0, none⟩) 1 [ss_want l0 a1] c (w3.alloc (.cells #[.int .u8 (ss_kind a1), .string (⟨#[]⟩ : ByteArray), .slice A0 l0.length c0] 40)) (ss_one (t := ss_want l0 a1) (heap_alloc_new w3 _) HC.out (Kd.C_below HR.out HB4.out)) (Nat.le_refl _) HCH.out (GM_below HGG.out HB4.out))
   clear HCH
   by_cases cz : c = 0
   rotate_left
   ·have d : (c != 0) = true := bne_iff_ne.mpr cz
    have h := HH.out
    rw [if_neg cz] at h
    simp only [Option.some.injEq] at h
    subst h
    go_wp2_with (first | (go_at_call 17; refine HCK.out.mono ?_; rintro e w5 ⟨rfl, hb5⟩; have HB5 := Lib.hid (below_then HB4.out HB4.out.size hb5); have HROW5 := Lib.hid ((hb5.block b (blk_lt HROW4.out)).trans HROW4.out); clear hb5))
    go_ret
    exact ⟨by first | rfl | (simp; done), by repeat (first | exact HB5.out | apply below_drew1 | apply pw_below_drewN)⟩
   subst cz
   have h := HH.out
   rw [if_pos rfl] at h
   obtain ⟨p, hp, h⟩ := Option.bind_eq_some_iff.mp h
   have HT := Lib.hid hp
   have HF := Lib.hid h
   clear h hp HH
   go_wp2_with (first | (go_at_call 17; refine HCK.out.mono ?_; rintro e w5 ⟨rfl, hb5⟩; have HB5 := Lib.hid (below_then HB4.out HB4.out.size hb5); have HROW5 := Lib.hid ((hb5.block b (blk_lt HROW4.out)).trans HROW4.out); clear hb5))
   clear HB4 HROW4 HCK HB3 HROW x0 x1 x2
   go_loopw [13, 36] (fun v13 v36 wr => ∃ i : Nat, v13 = .string (ss_word l0 i) ∧ v36 = .int .i64 (i : Int) ∧ i ≤ l0.length ∧ Hid (Below w.heap.size w wr) ∧ Hid (wr.heap[b]? = some (.cells #[.int .u8 (ss_kind a1), .string (⟨#[]⟩ : ByteArray), .slice A0 l0.length c0] 40 (0, 0)))) (fun _ v36 _ => l0.length - (intOf v36).toNat)
   case atStart => exact ⟨0, rfl, rfl, Nat.zero_le _, HB5, HROW5⟩
   case round =>
    clear HB5 HROW5
    obtain ⟨i, rfl, rfl, hi, HBW, HROWW⟩ := hrel
    by_cases hlt : i < l0.length
    ·clear m1 m2 m3 m4 u1 v1 u2 v2 u3 v3 u4 v4
     have q1 : (i : Int) < (l0.length : Int) := Int.ofNat_lt.mpr hlt
     have q0 : 0 ≤ (i : Int) := Int.natCast_nonneg i
     obtain ⟨ad, rfl, hx⟩ := Kd.at_string (Kd.C_below HR.out HBW.out) (i : Int) q0 q1
     rw [Int.toNat_natCast] at hx
     have hw64 : wrap64 ((i : Int) + 1) = ((i + 1 : Nat) : Int) := ss_step hlt HR.out.2.1
     have hle := ss_word_le HS.out (i + 1) hlt
     have hws : ss_word l0 (i + 1) = (if 0 < i then ss_word l0 i ++ (⟨#[46]⟩ : ByteArray) else ss_word l0 i) ++ rdOf ByteArray.empty l0 (i : Int) := rfl
     have HWS := Lib.hid hws
     rw [hws] at hle
     have HLE := Lib.hid hle
     have HLT := Lib.hid hlt
     clear hws hle hi hlt
     obtain ⟨wn, hwn⟩ : ∃ wn, wn = ss_word l0 (i + 1) := ⟨_, rfl⟩
     rw [← hwn] at HWS
     have HWN := Lib.hid hwn.symm
     clear hwn
     generalize ss_word l0 i = wd at HWS HLE ⊢
     generalize rdOf ByteArray.empty l0 (i : Int) = x at HWS HLE hx
     by_cases z : 0 < i
     ·have z1 : (0 : Int) < (i : Int) := Int.natCast_pos.mpr z
      rw [if_pos z] at HWS HLE
      have s1 : ¬ 9223372036854775807 < wd.size + 1 := ss_over1 HLE.out
      have s2 : ¬ 9223372036854775807 < wd.size + 1 + x.size := ss_over2 HLE.out
      go_wp2
      go_roundw
      case rel => exact ⟨i + 1, by rw [HWN.out, HWS.out], by first | (with_reducible rfl) | (rw [hw64]) | rfl, HLT.out, HBW, HROWW⟩
      case measure => first | (rw [hw64]; exact ss_meas HLT.out) | exact ss_meas HLT.out
     ·have z1 : ¬ (0 : Int) < (i : Int) := fun h => z (Int.natCast_pos.mp h)
      rw [if_neg z] at HWS HLE
      have s2 : ¬ 9223372036854775807 < wd.size + x.size := ss_over HLE.out
      go_wp2
      go_roundw
      case rel => exact ⟨i + 1, by rw [HWN.out, HWS.out], by first | (with_reducible rfl) | (rw [hw64]) | rfl, HLT.out, HBW, HROWW⟩
      case measure => first | (rw [hw64]; exact ss_meas HLT.out) | exact ss_meas HLT.out
    ·obtain rfl : i = l0.length := Nat.le_antisymm hi (Nat.le_of_not_lt hlt)
     have q1 : ¬ ((l0.length : Int) < (l0.length : Int)) := Int.lt_irrefl _
     have HWD := Lib.hid (ss_word_le HS.out l0.length (Nat.le_refl _))
     clear hi hlt
     have g2 := ss_mod a2
     have g3 := ss_mod a3
     have g4 := ss_mod a4
     clear u1 v1 u2 v2 u3 v3 u4 v4
     go_upto_region 17 with fail
     have HG5 := Lib.hid (GM_below HGG.out HBW.out)
     have HTK := Lib.hid (scan_Tokens.calls k (ss_text l0 a1 a2 a3 a4) p.1 p.2 wr HT.out HG5.out)
     clear HT HG5 HGG
     have hh := ss_kind3 a1 a2 a3
     have htx : ss_text l0 a1 a2 a3 a4 = ((ss_head a1 a2 a3 ++ ss_word l0 l0.length) ++ ss_gap a4) ++ (⟨#[125, 125]⟩ : ByteArray) := rfl
     have z2 := ss_gap_size a2
     have z3 := ss_gap_size a3
     have z4 := ss_gap_size a4
     have HTX := Lib.hid htx
     have HZ := Lib.hid (And.intro z2 (And.intro z3 z4))
     clear htx z2 z3 z4
     rcases hh with ⟨e3, e5, hh⟩ | ⟨e3, e5, hh⟩ | ⟨e3, e5, hh⟩
     all_goals
      go_upto_region 21 with fail
      first | rw [ss_fold a2] | skip
      first | rw [ss_fold a3] | skip
      rw [← hh]
      clear hh
      have hz := ss_head_size a1 a2 a3
      generalize ss_head a1 a2 a3 = HD at HTX hz ⊢
      generalize ss_word l0 l0.length = WD at HTX HWD ⊢
      have s1 : ¬ 9223372036854775807 < HD.size + WD.size := ss_o1 hz HWD.out
      have s2 : ¬ 9223372036854775807 < HD.size + WD.size + (a4 % 16).toNat := ss_o2 hz HWD.out a4
      have s3 : ¬ 9223372036854775807 < HD.size + WD.size + (a4 % 16).toNat + 2 := ss_o3 hz HWD.out a4
      clear hz
      by_cases cp : p.2 = 0
      ·have d : (p.2 == 0) = true := beq_iff_eq.mpr cp
       have h := HF.out
       rw [if_pos cp] at h
       have HSM := Lib.hid h
       clear h
       go_upto_region 22 with (go_at_call 8; rw [ss_fold a4, ← HTX.out]; refine HTK.out.mono ?_; rintro e w9 ⟨v0, rfl, hS, hb9⟩; have HB9 := Lib.hid (below_then HBW.out HBW.out.size hb9); have HROW9 := Lib.hid ((hb9.block b (blk_lt HROWW.out)).trans HROWW.out); obtain ⟨A9, c9, rfl, hc9, hC9⟩ := Kd.R_reads (Kd.S_R hS); have HC9 := Lib.hid hC9; have HCC := Lib.hid hc9; clear hb9 hS hC9 hc9)
       have y0 := (blk_cell HROW9.out 0).trans rfl
       have y1 := (blk_cell HROW9.out 1).trans rfl
       have y2 := (blk_cell HROW9.out 2).trans rfl
       go_wp2_with (go_at_call 13; have HB10 := below_alloc HB9.out (.cells #[.int .u8 (ss_kind a1), .string (⟨#[]⟩ : ByteArray), .slice A0 l0.length c0] 40); refine (bellmanref10_Same.calls k A9 c9 p.1 (some ⟨w9.heap.size, 0, none⟩) 1 [ss_want l0 a1] r _ (Kd.C_below HC9.out (below_alloc (Below.refl w9.heap.size w9) (.cells #[.int .u8 (ss_kind a1), .string (⟨#[]⟩ : ByteArray), .slice A0 l0.length c0] 40))) HCC.out (ss_one (t := ss_want l0 a1) (heap_alloc_new w9 _) HC.out (Kd.C_below HR.out HB10)) (Nat.le_refl _) HSM.out).mono ?_; rintro e w11 ⟨rfl, hb11⟩; have HB11 := Lib.hid (below_then HB10 HB10.size hb11); clear hb11)
       go_ret
       exact ⟨by first | rfl | (simp; done), by repeat (first | exact HB11.out | apply below_drew1 | apply pw_below_drewN)⟩
      ·have d : (p.2 == 0) = false := beq_eq_false_iff_ne.mpr cp
       have h := HF.out
       rw [if_neg cp] at h
       simp only [Option.some.injEq] at h
       subst h
       go_wp2_with (go_at_call 8; rw [ss_fold a4, ← HTX.out]; refine HTK.out.mono ?_; rintro e w9 ⟨v0, rfl, hS, hb9⟩; have HB9 := Lib.hid (below_then HBW.out HBW.out.size hb9); clear hb9)
       go_ret
       exact ⟨by first | rfl | (simp; done), by repeat (first | exact HB9.out | apply below_drew1 | apply pw_below_drewN)⟩


end Go.Proofs.YtcblmfcgjemgkaaDoor.XS
