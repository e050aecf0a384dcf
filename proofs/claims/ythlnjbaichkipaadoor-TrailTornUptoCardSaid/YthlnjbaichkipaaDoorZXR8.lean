-- by px.py, a program of this session, over the kit's printer: functions given by hand stand beside printed ones. Lean checks all of it.
import Derived.Test.YthlnjbaichkipaaDoorZXR0
import Derived.Test.YthlnjbaichkipaaDoorZXR3
import Derived.Test.YthlnjbaichkipaaDoorZXR7
import Derived.Test.YthlnjbaichkipaaDoorZGDev
import Derived.Test.YthlnjbaichkipaaDoorZGKey
import Derived.Test.YthlnjbaichkipaaDoorZGLayQ
import Derived.Test.YthlnjbaichkipaaDoorZGLayV
import Derived.ScopeJumps
import Derived.WalkMore
namespace Go.Proofs.YthlnjbaichkipaaDoor.XR
open Go.RowKit Go.Proofs.YthlnjbaichkipaaDoorW.PrintWords Go.Proofs.YthlnjbaichkipaaDoorW.PrintLast Go.Proofs.YthlnjbaichkipaaDoorW.PrintMore
attribute [local go_sem] max2_int min2_int max_two min_two max_three min_three max_four min_four   -- for this text's walks alone
set_option linter.unusedVariables false
set_option linter.unusedSimpArgs false

def utf8_ValidRune.j0 : Nat → Int → Bool → Option (Bool)
 | 0, _, _ => none
 | k + 1, x0, x3 => if x3 = true then (some true) else (if 57343 < x0 then (if x0 ≤ 1114111 then (some true) else (some false)) else (some false))
def utf8_ValidRune.f (k : Nat) (a0 : Int) : Option (Bool) := if 0 ≤ a0 then (utf8_ValidRune.j0 k a0 (decide (a0 < 55296))) else (utf8_ValidRune.j0 k a0 false)
theorem utf8_ValidRune.mono_l : ∀ k, (∀ y0 y1, LeO (utf8_ValidRune.j0 k y0 y1) (utf8_ValidRune.j0 (k + 1) y0 y1))
 | 0 => fun _ _ r h => by simp [utf8_ValidRune.j0] at h
 | k + 1 => by
  have ih0 := utf8_ValidRune.mono_l k
  ·intro y0 y1
   unfold utf8_ValidRune.j0
   repeat' first
   | (with_reducible exact ih0 _ _)
   | (with_reducible exact LeO.refl _)
   | (with_reducible exact LeO.none _)
   | (with_reducible refine LeO.ite ?_ ?_)
   | (with_reducible refine LeO.bind ?_ (fun _ => ?_))
   | exact ih0 _ _
   | exact LeO.none _
   | refine LeO.ite ?_ ?_
   | refine LeO.bind ?_ (fun _ => ?_)
theorem utf8_ValidRune.mono : ∀ a0 k, LeO (utf8_ValidRune.f k a0) (utf8_ValidRune.f (k + 1) a0) := by
 intro a0 k
 have ih0 := utf8_ValidRune.mono_l k
 unfold utf8_ValidRune.f
 repeat' first
   | (with_reducible exact ih0 _ _)
   | (with_reducible exact LeO.refl _)
   | (with_reducible exact LeO.none _)
   | (with_reducible refine LeO.ite ?_ ?_)
   | (with_reducible refine LeO.bind ?_ (fun _ => ?_))
   | exact ih0 _ _
   | exact LeO.none _
   | refine LeO.ite ?_ ?_
   | refine LeO.bind ?_ (fun _ => ?_)
set_option maxHeartbeats 8000000 in
set_option maxRecDepth 100000 in
theorem utf8_ValidRune.calls (k : Nat) (a0 : Int) (r : Bool) (w : World) (h : utf8_ValidRune.f k a0 = some r) :
  Calls Tryd.prog 90 #[.int .i32 a0] w fun e w' => e = .returned (.bool r) ∧ Drawn0 w w' := by
 have H : (if 0 ≤ a0 then (utf8_ValidRune.j0 k a0 (decide (a0 < 55296))) else (utf8_ValidRune.j0 k a0 false)) = some r := h
 clear h
 have HC2 := Aside0.mk H
 clear H
 go_enter Tryd.func90, Tryd.ntmps90
 go_upto_region 1 with (fail)
 go_cut [3] (fun v3 wc => ∃ (kq : Nat) (x3_1 : Bool), v3 = .bool x3_1 ∧ Aside0 (utf8_ValidRune.j0 kq a0 x3_1 = some r) ∧ Aside0 (kq ≤ k) ∧ Drawn0 w wc)
 case first =>
  have H := HC2.out
  clear HC2
  by_cases c3 : 0 ≤ a0
  ·rw [if_pos c3] at H
   have c3b0 : decide (0 ≤ a0) = true := decide_eq_true c3
   clear c3
   (first | rw [c3b0] | (simp only [i64_w, i32_w]; rw [c3b0]) | skip)
   have H' := Aside0.mk H
   clear H
   go_wp2
   go_meet
   case rel => exact ⟨_, (decide (a0 < 55296)), (by first | rfl | (simp; done) | (simp [*]; done)), H', ⟨by first | omega | exact Nat.le_refl _⟩, by repeat (first | exact Drawn0.refl _ | apply Drawn0.step)⟩
  ·rw [if_neg c3] at H
   have c3b0 : decide (0 ≤ a0) = false := decide_eq_false c3
   clear c3
   (first | rw [c3b0] | (simp only [i64_w, i32_w]; rw [c3b0]) | skip)
   have H' := Aside0.mk H
   clear H
   go_wp2
   go_meet
   case rel => exact ⟨_, (false), (by first | rfl | (simp; done) | (simp [*]; done)), H', ⟨by first | omega | exact Nat.le_refl _⟩, by repeat (first | exact Drawn0.refl _ | apply Drawn0.step)⟩
 case rest =>
  clear HC2
  try clear p2
  try clear c3
  try clear c3b0
  obtain ⟨kq, x3_1, rfl, HA, HJ1, ⟨mc1, rfl⟩⟩ := hcut
  cases kq with
  | zero => exact absurd HA.out (by simp [utf8_ValidRune.j0])
  | succ kj1 =>
   have H := HA.out
   clear HA
   simp only [utf8_ValidRune.j0] at H
   by_cases c4 : x3_1 = true
   ·subst c4
    have H1 : (some true) = some r := by rw [if_pos rfl] at H; exact H
    clear H
    have H := H1
    clear H1
    obtain rfl := Option.some.inj H
    go_wp2
    go_ret
    exact ⟨by first | rfl | (simp; done) | (simp [*]; done), by repeat (first | exact Drawn0.refl _ | apply Drawn0.step)⟩
   ·replace c4 := Bool.eq_false_iff.mpr c4
    subst c4
    have H1 : (if 57343 < a0 then (if a0 ≤ 1114111 then (some true) else (some false)) else (some false)) = some r := by rw [if_neg (show ¬ (false = true) by decide)] at H; exact H
    clear H
    have H := H1
    clear H1
    by_cases c5 : 57343 < a0
    ·rw [if_pos c5] at H
     have c5b0 : decide (57343 < a0) = true := decide_eq_true c5
     clear c5
     by_cases c6 : a0 ≤ 1114111
     ·rw [if_pos c6] at H
      have c6b0 : decide (a0 ≤ 1114111) = true := decide_eq_true c6
      clear c6
      obtain rfl := Option.some.inj H
      go_wp2
      go_ret
      exact ⟨by first | rfl | (simp; done) | (simp [*]; done), by repeat (first | exact Drawn0.refl _ | apply Drawn0.step)⟩
     ·rw [if_neg c6] at H
      have c6b0 : decide (a0 ≤ 1114111) = false := decide_eq_false c6
      clear c6
      obtain rfl := Option.some.inj H
      go_wp2
      go_ret
      exact ⟨by first | rfl | (simp; done) | (simp [*]; done), by repeat (first | exact Drawn0.refl _ | apply Drawn0.step)⟩
    ·rw [if_neg c5] at H
     have c5b0 : decide (57343 < a0) = false := decide_eq_false c5
     clear c5
     obtain rfl := Option.some.inj H
     go_wp2
     go_ret
     exact ⟨by first | rfl | (simp; done) | (simp [*]; done), by repeat (first | exact Drawn0.refl _ | apply Drawn0.step)⟩

def bytealg_Cutover.f (a0 : Int) : Option (Int) := some (wrap64 (Int.tdiv (wrap64 (a0 + 16)) 8))
set_option maxHeartbeats 8000000 in
set_option maxRecDepth 100000 in
theorem bytealg_Cutover.calls (a0 : Int) (r : Int) (w : World) (h : bytealg_Cutover.f a0 = some r) :
  Calls Tryd.prog 91 #[.int .i64 a0] w fun e w' => e = .returned (.int .i64 r) ∧ Drawn0 w w' := by
 have H : (some (wrap64 (Int.tdiv (wrap64 (a0 + 16)) 8))) = some r := h
 clear h
 obtain rfl := Option.some.inj H
 go_enter Tryd.func91, Tryd.ntmps91
 go_wp2
 go_ret
 exact ⟨by first | rfl | (simp; done) | (simp [*]; done), by repeat (first | exact Drawn0.refl _ | apply Drawn0.step)⟩

def utf8_RuneStart.f (a0 : Int) : Option (Bool) := some ((Go.bits .and .u8 a0 192) != 128)
set_option maxHeartbeats 8000000 in
set_option maxRecDepth 100000 in
theorem utf8_RuneStart.calls (a0 : Int) (r : Bool) (w : World) (h : utf8_RuneStart.f a0 = some r) :
  Calls Tryd.prog 87 #[.int .u8 a0] w fun e w' => e = .returned (.bool r) ∧ Drawn0 w w' := by
 have H : (some ((Go.bits .and .u8 a0 192) != 128)) = some r := h
 clear h
 obtain rfl := Option.some.inj H
 go_enter Tryd.func87, Tryd.ntmps87
 go_wp2
 go_ret
 exact ⟨by first | rfl | (simp; done) | (simp [*]; done), by repeat (first | exact Drawn0.refl _ | apply Drawn0.step)⟩
def tr_trim (s : ByteArray) : ByteArray := ⟨(Lib.trimB s.data.toList 0).toArray⟩
def tr_blk (D : Dv) (f p : Int) : ByteArray := dv_has D (f + p)
def tr_end (acc : List UInt8) (n : Int) : Option (ByteArray × Int) := (sum_Next.f (⟨acc.toArray⟩ : ByteArray)).bind fun q => some (if q.2.2 = 0 then if q.2.1.size < 63 then if (tr_trim q.2.1).size = 0 then (q.1, n) else ((⟨#[]⟩ : ByteArray), 0) else ((⟨#[]⟩ : ByteArray), 0) else ((⟨#[]⟩ : ByteArray), 0))
def tr_rec (D : Dv) (f : Int) : Nat → Int → List UInt8 → Int → Option (ByteArray × Int)
 | 0, _, _, _ => some ((⟨#[]⟩ : ByteArray), 0)
 | d + 1, p, acc, n =>
  if bt (tr_blk D f p) 63 = 1 then tr_rec D f d (p + 1) (acc ++ (tr_blk D f p).data.toList.take 63) (n + 1)
  else if bt (tr_blk D f p) 63 = 2 then tr_end (acc ++ (tr_blk D f p).data.toList.take 63) (n + 1)
  else some ((⟨#[]⟩ : ByteArray), 0)
theorem tr_builder_below {T e : TypeId} {B b : Nat} {bs : List Value} {w w1 : World} (h : Lib.IsBuilder T e B b bs w) (hb : Below w.heap.size w w1) : Lib.IsBuilder T e B b bs w1 := by
 rcases h with ⟨h1, v, h2, h3, h4⟩ | ⟨h1, v, h2, h3, h4⟩
 ·exact .inl ⟨h1, v, (hb.block b (blk_lt h2)).trans h2, pw_own_below h3 hb, h4⟩
 ·exact .inr ⟨h1, v, (hb.block b (blk_lt h2)).trans h2, pw_own_below h3 hb, h4⟩
theorem tr_str63 (s : ByteArray) (acc : List UInt8) : Lib.byteCells acc ++ Lib.strCells (s.extract 0 63) = Lib.byteCells (acc ++ s.data.toList.take 63) := by
 have e : (s.extract 0 63).data.toList = s.data.toList.take 63 := by
  simp only [ByteArray.data_extract, Array.toList_extract, List.extract_eq_take_drop, List.drop_zero, Nat.sub_zero]
 unfold Lib.byteCells Lib.strCells
 rw [List.map_append, e]
set_option maxHeartbeats 4000000 in
set_option maxRecDepth 100000 in
theorem tr_record (g : Nat) (D : Dv) (f m i : Int) (s : ByteArray) (r : Int) (w : World) (hD : DR w g D) (hb : D.b.length ≤ 4096) (h : tr_in D.b.length f m) (h0 : 0 ≤ i) (h1 : i ≤ m) (hz : ∀ p, 0 ≤ p → p < m → (tr_blk D f p).size = 64) (hr : tr_rec D f (m - i).toNat i [] 0 = some (s, r)) :
  Calls Tryd.prog 37 #[.agg #[.pointer (some ⟨g, 0, none⟩), .int .i64 f, .int .i64 m], .int .i64 i] w fun e w' => e = .returned (.tuple #[.string s, .int .i64 r]) ∧ Below w.heap.size w w' := by
 have hn := blk_new w (.cells #[.pointer (some ⟨g, 0, none⟩), .int .i64 f, .int .i64 m] 51)
 have hbl := below_alloc (Below.refl w.heap.size w) (.cells #[.pointer (some ⟨g, 0, none⟩), .int .i64 f, .int .i64 m] 51)
 have HAT := Lib.hid (fun (p : Int) (W : World) (hW : Below w.heap.size w W) (hp0 : 0 ≤ p) (hp1 : p < m) => tr_at g D f m p W (DR.below hD hW) hb h hp0 hp1)
 have hm : m ≤ 4096 := by have := h.2.2.2; have := h.2.1; omega
 have HZ := Lib.hid hz
 have HR := Lib.hid hr
 have HN := Lib.hid hn
 have HB := Lib.hid hbl
 clear hz hr hn hbl hD hb h
 go_enter Tryd.func37, Tryd.ntmps37
 go_wp2
 refine wp_scope_jumps 0 (fun a' w' => ∃ (n : Nat) (acc : List UInt8) (u8 u9 u10 u11 u12 u13 u14 u15 u16 u17 u18 u19 u20 u21 u22 u23 u24 u25 u26 u27 u28 u29 u30 u31 u32 u33 u34 u35 u36 u37 u38 u39 u40 u41 u42 u43 u44 u45 u46 u47 u48 u49 u50 u51 u52 u53 : Value), a' = { tmps := #[.agg #[.pointer (some ⟨g, 0, none⟩), .int .i64 f, .int .i64 m], .int .i64 i, .pointer (some ⟨w.heap.size, 0, none⟩), undef, .string (⟨#[]⟩ : ByteArray), .int .i64 0, .pointer (some ⟨w.heap.size + 1, 0, none⟩), .int .i64 (n : Int), u8, u9, u10, u11, u12, u13, u14, u15, u16, u17, u18, u19, u20, u21, u22, u23, u24, u25, u26, u27, u28, u29, u30, u31, u32, u33, u34, u35, u36, u37, u38, u39, u40, u41, u42, u43, u44, u45, u46, u47, u48, u49, u50, u51, u52, u53], defers := [] } ∧ Hid (Lib.IsBuilder 89 5 (w.heap.size + 1) (w.heap.size + 1) (Lib.byteCells acc) w') ∧ Hid (Below (w.heap.size + 1) (w.alloc (.cells #[.pointer (some ⟨g, 0, none⟩), .int .i64 f, .int .i64 m] 51)) w') ∧ Hid (tr_rec D f (m - (i + (n : Int))).toNat (i + (n : Int)) acc (n : Int) = some (s, r)) ∧ i + (n : Int) ≤ m ∧ acc.length = 63 * n) (fun a' _ => (m - (i + intOf (a'.tmps.getD 7 undef))).toNat) rfl ?_ ?_
 ·go_wp2
  go_step3
  have hn2 := blk_new (w.alloc (.cells #[.pointer (some ⟨g, 0, none⟩), .int .i64 f, .int .i64 m] 51)) (.cells #[.pointer none, .slice none 0 0] 89)
  rw [World.size_alloc] at hn2
  obtain ⟨acc, hacc⟩ : ∃ acc : List UInt8, acc = [] := ⟨_, rfl⟩
  have HBU := Lib.hid (show Lib.IsBuilder 89 5 (w.heap.size + 1) (w.heap.size + 1) (Lib.byteCells acc) ((w.alloc (.cells #[.pointer (some ⟨g, 0, none⟩), .int .i64 f, .int .i64 m] 51)).alloc (.cells #[.pointer none, .slice none 0 0] 89)) from by rw [hacc]; exact .inl ⟨Nat.le_refl _, .slice none 0 0, hn2, World.ownsRow_nil _ _ _ _, by simp [Value.ownBlock]⟩)
  have HBW := Lib.hid (show Below (w.heap.size + 1) (w.alloc (.cells #[.pointer (some ⟨g, 0, none⟩), .int .i64 f, .int .i64 m] 51)) ((w.alloc (.cells #[.pointer (some ⟨g, 0, none⟩), .int .i64 f, .int .i64 m] 51)).alloc (.cells #[.pointer none, .slice none 0 0] 89)) from by have := below_alloc (Below.refl (w.alloc (.cells #[.pointer (some ⟨g, 0, none⟩), .int .i64 f, .int .i64 m] 51)).heap.size (w.alloc (.cells #[.pointer (some ⟨g, 0, none⟩), .int .i64 f, .int .i64 m] 51))) (.cells #[.pointer none, .slice none 0 0] 89); rwa [World.size_alloc] at this)
  generalize (w.alloc (.cells #[.pointer (some ⟨g, 0, none⟩), .int .i64 f, .int .i64 m] 51)).alloc (.cells #[.pointer none, .slice none 0 0] 89) = W at HBU HBW ⊢
  clear hn2
  refine (?_ : ∀ n : Nat, n = 0 → Exit.then _ _ Exit.normal { tmps := #[.agg #[.pointer (some ⟨g, 0, none⟩), .int .i64 f, .int .i64 m], .int .i64 i, .pointer (some ⟨w.heap.size, 0, none⟩), undef, .string (⟨#[]⟩ : ByteArray), .int .i64 0, .pointer (some ⟨w.heap.size + 1, 0, none⟩), .int .i64 (n : Int), undef, undef, undef, undef, undef, undef, undef, undef, undef, undef, undef, undef, undef, undef, undef, undef, undef, undef, undef, undef, undef, undef, undef, undef, undef, undef, undef, undef, undef, undef, undef, undef, undef, undef, undef, undef, undef, undef, undef, undef, undef, undef, undef, undef, undef, undef], defers := [] } W) 0 rfl
  intro n hn0
  have HRC := Lib.hid (show tr_rec D f (m - (i + (n : Int))).toNat (i + (n : Int)) acc (n : Int) = some (s, r) from by rw [hacc, hn0]; simpa using HR.out)
  have hnm : i + (n : Int) ≤ m := by omega
  have hal : acc.length = 63 * n := by rw [hacc, hn0]; rfl
  clear hacc hn0
  obtain ⟨x0, x1, x2⟩ := blk_cells3 ((HBW.out.block w.heap.size (by omega)).trans HN.out)
  have hw : wrap64 (i + (n : Int)) = i + (n : Int) := by unfold wrap64; omega
  have HBW0 := Lib.hid (show Below w.heap.size w W from below_then HB.out HB.out.size ⟨HBW.out.os, HBW.out.tape, HBW.out.output, HBW.out.size, fun k hk => HBW.out.block k (by simpa using hk)⟩)
  by_cases c0 : i + (n : Int) = m
  ·have d0 : (i + (n : Int) == m) = true := beq_iff_eq.mpr c0
   have hx := HRC.out
   rw [show (m - (i + (n : Int))).toNat = 0 by omega] at hx
   simp only [tr_rec, Option.some.injEq, Prod.mk.injEq] at hx
   obtain ⟨rfl, rfl⟩ := hx
   go_wp2
   simp only [Exit.jump]
   go_ret2
   exact ⟨rfl, HBW0.out⟩
  have d0 : (i + (n : Int) == m) = false := beq_eq_false_iff_ne.mpr c0
  have hw2 : wrap64 ((n : Int) + 1) = ((n + 1 : Nat) : Int) := by unfold wrap64; omega
  have HA := Lib.hid (HAT.out (i + (n : Int)) W HBW0.out (by omega) (by omega))
  have hsz := HZ.out (i + (n : Int)) (by omega) (by omega)
  change Hid (Calls _ _ _ _ (fun e w' => e = .returned (.string (tr_blk D f (i + (n : Int)))) ∧ _)) at HA
  have hd1 : (m - (i + (n : Int))).toNat = (m - (i + ((n + 1 : Nat) : Int))).toNat + 1 := by omega
  have hx := HRC.out
  rw [hd1, tr_rec, show i + (n : Int) + 1 = i + ((n + 1 : Nat) : Int) by omega, show (n : Int) + 1 = ((n + 1 : Nat) : Int) by omega] at hx
  generalize tr_blk D f (i + (n : Int)) = b at HA hsz hx
  have hbl : b.data.toList.length = 64 := by rw [← hsz]; exact Array.length_toList
  have hal2 : (acc ++ b.data.toList.take 63).length = 63 * (n + 1) := by
   rw [List.length_append, List.length_take, hbl]
   omega
  have hcl : (Lib.byteCells acc).length = 63 * n := by unfold Lib.byteCells; rw [List.length_map]; exact hal
  have h63 : (b.extract 0 63).size ≤ 63 := by rw [ByteArray.size_extract]; omega
  have HWS := Lib.hid (fun (W2 : World) (hB : Lib.IsBuilder 89 5 (w.heap.size + 1) (w.heap.size + 1) (Lib.byteCells acc) W2) (hs : w.heap.size + 1 ≤ W2.heap.size) => Tryd.Builder_WriteString (w.heap.size + 1) (w.heap.size + 1) _ (b.extract 0 63) W2 hB (by omega) hs)
  have HSTR := Lib.hid (fun (W2 : World) (hB : Lib.IsBuilder 89 5 (w.heap.size + 1) (w.heap.size + 1) (Lib.byteCells (acc ++ b.data.toList.take 63)) W2) (hs : w.heap.size + 1 ≤ W2.heap.size) => Tryd.Builder_String_any (w.heap.size + 1) (w.heap.size + 1) (acc ++ b.data.toList.take 63) W2 hB hs)
  have hst := tr_str63 b acc
  have e5 : 63 < b.size := by omega
  have hbt : bt b 63 = ((b[63]'e5).toNat : Int) := by unfold bt; exact dif_pos e5
  have e3 : (63 : Int) ≤ (b.size : Int) := by omega
  have e4 : (63 : Int) < (b.size : Int) := by omega
  have hsB : w.heap.size + 1 ≤ W.heap.size := by have := HBW.out.size; rw [World.size_alloc] at this; exact this
  have HX := Lib.hid hx
  have HAL := Lib.hid (And.intro hal2 (And.intro hnm c0))
  have HST := Lib.hid hst
  have HSB := Lib.hid hsB
  have HI := Lib.hid (And.intro h0 hm)
  clear hx hsz hal2 hd1 hcl h63 hbl hst hsB hnm hal c0 h0 h1 hm
  by_cases k1 : bt b 63 = 1
  ·have hx := HX.out
   rw [if_pos k1] at hx
   have HX2 := Lib.hid hx
   have k1b : (((b[63]'e5).toNat : Int) == 1) = true := beq_iff_eq.mpr (hbt ▸ k1)
   clear hx
   go_wp2_with (first | (go_at_call 35; refine HA.out.mono ?_; rintro e w4 ⟨rfl, hb4⟩; have HBU4 := Lib.hid (tr_builder_below HBU.out hb4); have HBW4 := Lib.hid (below_then HBW.out HSB.out hb4); have HS4 := Lib.hid (Nat.le_trans HSB.out hb4.size); clear hb4) | (go_at_call 44; refine (HWS.out _ HBU4.out HS4.out).mono ?_; rintro e w5 ⟨rfl, hbu5, hb5⟩; rw [HST.out] at hbu5; have HBU5 := Lib.hid (show Lib.IsBuilder 89 5 (w.heap.size + 1) (w.heap.size + 1) (Lib.byteCells (acc ++ b.data.toList.take 63)) w5 from .inr hbu5); have HBW5 := Lib.hid (HBW4.out.trans hb5); have HS5 := Lib.hid (Nat.le_trans HS4.out hb5.size); clear hbu5 hb5) | (go_at_call 46; refine (HSTR.out _ HBU5.out HS5.out).mono ?_; rintro e w6 ⟨rfl, hb6⟩; have HBW6 := Lib.hid (HBW5.out.trans hb6); have HS6 := Lib.hid (Nat.le_trans HS5.out hb6.size); clear hb6) | (go_at_call 55; refine (HNX.out _).mono ?_; rintro e w7 ⟨rfl, hb7⟩; have HBW7 := Lib.hid (below_then HBW6.out HS6.out hb7); clear hb7) | (go_at_call 56; refine (HTR2.out _).mono ?_; rintro e w8 ⟨rfl, hw8⟩; have HBW8 := Lib.hid (show Below (w.heap.size + 1) (w.alloc (.cells #[.pointer (some ⟨g, 0, none⟩), .int .i64 f, .int .i64 m] 51)) w8 from by rcases hw8 with rfl | rfl; exact HBW7.out; exact below_drew1 HBW7.out); clear hw8))
   go_step3
   refine ⟨rfl, ⟨n + 1, acc ++ b.data.toList.take 63, _, _, _, _, _, _, _, _, _, _, _, _, _, _, _, _, _, _, _, _, _, _, _, _, _, _, _, _, _, _, _, _, _, _, _, _, _, _, _, _, _, _, _, _, _, _, rfl, HBU5, HBW5, HX2, by have := HAL.out; omega, HAL.out.1⟩⟩
  have k1b : (((b[63]'e5).toNat : Int) == 1) = false := beq_eq_false_iff_ne.mpr (hbt ▸ k1)
  by_cases k2 : bt b 63 = 2
  rotate_left
  ·have hx := HX.out
   rw [if_neg k1, if_neg k2] at hx
   simp only [Option.some.injEq, Prod.mk.injEq] at hx
   obtain ⟨rfl, rfl⟩ := hx
   have k2b : (((b[63]'e5).toNat : Int) == 2) = false := beq_eq_false_iff_ne.mpr (hbt ▸ k2)
   go_wp2_with (first | (go_at_call 35; refine HA.out.mono ?_; rintro e w4 ⟨rfl, hb4⟩; have HBU4 := Lib.hid (tr_builder_below HBU.out hb4); have HBW4 := Lib.hid (below_then HBW.out HSB.out hb4); have HS4 := Lib.hid (Nat.le_trans HSB.out hb4.size); clear hb4) | (go_at_call 44; refine (HWS.out _ HBU4.out HS4.out).mono ?_; rintro e w5 ⟨rfl, hbu5, hb5⟩; rw [HST.out] at hbu5; have HBU5 := Lib.hid (show Lib.IsBuilder 89 5 (w.heap.size + 1) (w.heap.size + 1) (Lib.byteCells (acc ++ b.data.toList.take 63)) w5 from .inr hbu5); have HBW5 := Lib.hid (HBW4.out.trans hb5); have HS5 := Lib.hid (Nat.le_trans HS4.out hb5.size); clear hbu5 hb5) | (go_at_call 46; refine (HSTR.out _ HBU5.out HS5.out).mono ?_; rintro e w6 ⟨rfl, hb6⟩; have HBW6 := Lib.hid (HBW5.out.trans hb6); have HS6 := Lib.hid (Nat.le_trans HS5.out hb6.size); clear hb6) | (go_at_call 55; refine (HNX.out _).mono ?_; rintro e w7 ⟨rfl, hb7⟩; have HBW7 := Lib.hid (below_then HBW6.out HS6.out hb7); clear hb7) | (go_at_call 56; refine (HTR2.out _).mono ?_; rintro e w8 ⟨rfl, hw8⟩; have HBW8 := Lib.hid (show Below (w.heap.size + 1) (w.alloc (.cells #[.pointer (some ⟨g, 0, none⟩), .int .i64 f, .int .i64 m] 51)) w8 from by rcases hw8 with rfl | rfl; exact HBW7.out; exact below_drew1 HBW7.out); clear hw8))
   simp only [Exit.jump]
   go_ret2
   exact ⟨rfl, below_then HB.out HB.out.size ⟨HBW5.out.os, HBW5.out.tape, HBW5.out.output, HBW5.out.size, fun k hk => HBW5.out.block k (by simpa using hk)⟩⟩
  have k2b : (((b[63]'e5).toNat : Int) == 2) = true := beq_iff_eq.mpr (hbt ▸ k2)
  have hx := HX.out
  rw [if_neg k1, if_pos k2] at hx
  unfold tr_end at hx
  obtain ⟨q, hq, hx0⟩ := Option.bind_eq_some_iff.mp hx
  obtain ⟨q1, q2, q3⟩ := q
  clear hx
  have hx := Option.some.inj hx0
  clear hx0
  simp only at hx
  have HNX := Lib.hid (fun (W2 : World) => sum_Next.calls _ q1 q2 q3 W2 hq)
  have HTR := Lib.hid (fun (W2 : World) (hs : q2.size ≤ 9223372036854775807) => (show Calls Tryd.prog 56 #[.string q2, .string ⟨#[0]⟩] W2 (fun e w' => e = .returned (.string (tr_trim q2)) ∧ (w' = W2 ∨ w' = W2.drew)) from Tryd.strings_Trim_one q2 0 (by decide) W2 hs))
  generalize tr_trim q2 = TT at HTR hx
  clear hq
  by_cases z1 : q3 = 0
  rotate_left
  ·rw [if_neg z1] at hx
   simp only [Prod.mk.injEq] at hx
   obtain ⟨rfl, rfl⟩ := hx
   have z1b : (q3 != 0) = true := bne_iff_ne.mpr z1
   go_wp2_with (first | (go_at_call 35; refine HA.out.mono ?_; rintro e w4 ⟨rfl, hb4⟩; have HBU4 := Lib.hid (tr_builder_below HBU.out hb4); have HBW4 := Lib.hid (below_then HBW.out HSB.out hb4); have HS4 := Lib.hid (Nat.le_trans HSB.out hb4.size); clear hb4) | (go_at_call 44; refine (HWS.out _ HBU4.out HS4.out).mono ?_; rintro e w5 ⟨rfl, hbu5, hb5⟩; rw [HST.out] at hbu5; have HBU5 := Lib.hid (show Lib.IsBuilder 89 5 (w.heap.size + 1) (w.heap.size + 1) (Lib.byteCells (acc ++ b.data.toList.take 63)) w5 from .inr hbu5); have HBW5 := Lib.hid (HBW4.out.trans hb5); have HS5 := Lib.hid (Nat.le_trans HS4.out hb5.size); clear hbu5 hb5) | (go_at_call 46; refine (HSTR.out _ HBU5.out HS5.out).mono ?_; rintro e w6 ⟨rfl, hb6⟩; have HBW6 := Lib.hid (HBW5.out.trans hb6); have HS6 := Lib.hid (Nat.le_trans HS5.out hb6.size); clear hb6) | (go_at_call 55; refine (HNX.out _).mono ?_; rintro e w7 ⟨rfl, hb7⟩; have HBW7 := Lib.hid (below_then HBW6.out HS6.out hb7); clear hb7) | (go_at_call 56; refine (HTR2.out _).mono ?_; rintro e w8 ⟨rfl, hw8⟩; have HBW8 := Lib.hid (show Below (w.heap.size + 1) (w.alloc (.cells #[.pointer (some ⟨g, 0, none⟩), .int .i64 f, .int .i64 m] 51)) w8 from by rcases hw8 with rfl | rfl; exact HBW7.out; exact below_drew1 HBW7.out); clear hw8))
   simp only [Exit.jump]
   go_ret2
   exact ⟨rfl, below_then HB.out HB.out.size (by have hh := (by first | exact HBW8.out | exact HBW7.out : Below (w.heap.size + 1) _ _); exact ⟨hh.os, hh.tape, hh.output, hh.size, fun k hk => hh.block k (by simpa using hk)⟩)⟩
  rw [if_pos z1] at hx
  subst z1
  by_cases z2 : q2.size < 63
  rotate_left
  ·rw [if_neg z2] at hx
   simp only [Prod.mk.injEq] at hx
   obtain ⟨rfl, rfl⟩ := hx
   have z2a : (63 : Int) ≤ (q2.size : Int) := by omega
   have z2b : decide ((63 : Int) ≤ (q2.size : Int)) = true := decide_eq_true z2a
   have z2c : 63 ≤ q2.size := by omega
   go_wp2_with (first | (go_at_call 35; refine HA.out.mono ?_; rintro e w4 ⟨rfl, hb4⟩; have HBU4 := Lib.hid (tr_builder_below HBU.out hb4); have HBW4 := Lib.hid (below_then HBW.out HSB.out hb4); have HS4 := Lib.hid (Nat.le_trans HSB.out hb4.size); clear hb4) | (go_at_call 44; refine (HWS.out _ HBU4.out HS4.out).mono ?_; rintro e w5 ⟨rfl, hbu5, hb5⟩; rw [HST.out] at hbu5; have HBU5 := Lib.hid (show Lib.IsBuilder 89 5 (w.heap.size + 1) (w.heap.size + 1) (Lib.byteCells (acc ++ b.data.toList.take 63)) w5 from .inr hbu5); have HBW5 := Lib.hid (HBW4.out.trans hb5); have HS5 := Lib.hid (Nat.le_trans HS4.out hb5.size); clear hbu5 hb5) | (go_at_call 46; refine (HSTR.out _ HBU5.out HS5.out).mono ?_; rintro e w6 ⟨rfl, hb6⟩; have HBW6 := Lib.hid (HBW5.out.trans hb6); have HS6 := Lib.hid (Nat.le_trans HS5.out hb6.size); clear hb6) | (go_at_call 55; refine (HNX.out _).mono ?_; rintro e w7 ⟨rfl, hb7⟩; have HBW7 := Lib.hid (below_then HBW6.out HS6.out hb7); clear hb7) | (go_at_call 56; refine (HTR2.out _).mono ?_; rintro e w8 ⟨rfl, hw8⟩; have HBW8 := Lib.hid (show Below (w.heap.size + 1) (w.alloc (.cells #[.pointer (some ⟨g, 0, none⟩), .int .i64 f, .int .i64 m] 51)) w8 from by rcases hw8 with rfl | rfl; exact HBW7.out; exact below_drew1 HBW7.out); clear hw8))
   simp only [Exit.jump]
   go_ret2
   exact ⟨rfl, below_then HB.out HB.out.size (by have hh := (by first | exact HBW8.out | exact HBW7.out : Below (w.heap.size + 1) _ _); exact ⟨hh.os, hh.tape, hh.output, hh.size, fun k hk => hh.block k (by simpa using hk)⟩)⟩
  rw [if_pos z2] at hx
  have z2a : ¬ (63 : Int) ≤ (q2.size : Int) := by omega
  have z2b : decide ((63 : Int) ≤ (q2.size : Int)) = false := decide_eq_false z2a
  have z2c : ¬ 63 ≤ q2.size := by omega
  have HTR2 := Lib.hid (fun (W2 : World) => HTR.out W2 (by omega))
  by_cases z3 : TT.size = 0
  rotate_left
  ·rw [if_neg z3] at hx
   simp only [Prod.mk.injEq] at hx
   obtain ⟨rfl, rfl⟩ := hx
   have z3a : TT.toList ≠ ([] : List UInt8) := fun e => z3 (by rw [ByteArray.toList_eq] at e; show TT.data.size = 0; rw [← Array.length_toList, e]; rfl)
   have z3b : (TT.toList != ([] : List UInt8)) = true := bne_iff_ne.mpr z3a
   have z3c : (TT.toList == ([] : List UInt8)) = false := beq_eq_false_iff_ne.mpr z3a
   have z3d : TT.toList.isEmpty = false := by rw [← Bool.not_eq_true, List.isEmpty_iff]; exact z3a
   clear z3
   go_wp2_with (first | (go_at_call 35; refine HA.out.mono ?_; rintro e w4 ⟨rfl, hb4⟩; have HBU4 := Lib.hid (tr_builder_below HBU.out hb4); have HBW4 := Lib.hid (below_then HBW.out HSB.out hb4); have HS4 := Lib.hid (Nat.le_trans HSB.out hb4.size); clear hb4) | (go_at_call 44; refine (HWS.out _ HBU4.out HS4.out).mono ?_; rintro e w5 ⟨rfl, hbu5, hb5⟩; rw [HST.out] at hbu5; have HBU5 := Lib.hid (show Lib.IsBuilder 89 5 (w.heap.size + 1) (w.heap.size + 1) (Lib.byteCells (acc ++ b.data.toList.take 63)) w5 from .inr hbu5); have HBW5 := Lib.hid (HBW4.out.trans hb5); have HS5 := Lib.hid (Nat.le_trans HS4.out hb5.size); clear hbu5 hb5) | (go_at_call 46; refine (HSTR.out _ HBU5.out HS5.out).mono ?_; rintro e w6 ⟨rfl, hb6⟩; have HBW6 := Lib.hid (HBW5.out.trans hb6); have HS6 := Lib.hid (Nat.le_trans HS5.out hb6.size); clear hb6) | (go_at_call 55; refine (HNX.out _).mono ?_; rintro e w7 ⟨rfl, hb7⟩; have HBW7 := Lib.hid (below_then HBW6.out HS6.out hb7); clear hb7) | (go_at_call 56; refine (HTR2.out _).mono ?_; rintro e w8 ⟨rfl, hw8⟩; have HBW8 := Lib.hid (show Below (w.heap.size + 1) (w.alloc (.cells #[.pointer (some ⟨g, 0, none⟩), .int .i64 f, .int .i64 m] 51)) w8 from by rcases hw8 with rfl | rfl; exact HBW7.out; exact below_drew1 HBW7.out); clear hw8))
   simp only [Exit.jump]
   go_ret2
   exact ⟨rfl, below_then HB.out HB.out.size (by have hh := (by first | exact HBW8.out | exact HBW7.out : Below (w.heap.size + 1) _ _); exact ⟨hh.os, hh.tape, hh.output, hh.size, fun k hk => hh.block k (by simpa using hk)⟩)⟩
  rw [if_pos z3] at hx
  simp only [Prod.mk.injEq] at hx
  obtain ⟨rfl, rfl⟩ := hx
  have z3a : TT.toList = ([] : List UInt8) := by rw [ByteArray.toList_eq]; exact List.eq_nil_of_length_eq_zero (by rw [Array.length_toList]; exact z3)
  have z3b : (TT.toList != ([] : List UInt8)) = false := bne_eq_false_iff_eq.mpr z3a
  have z3c : (TT.toList == ([] : List UInt8)) = true := beq_iff_eq.mpr z3a
  have z3d : TT.toList.isEmpty = true := List.isEmpty_iff.mpr z3a
  clear z3
  go_wp2_with (first | (go_at_call 35; refine HA.out.mono ?_; rintro e w4 ⟨rfl, hb4⟩; have HBU4 := Lib.hid (tr_builder_below HBU.out hb4); have HBW4 := Lib.hid (below_then HBW.out HSB.out hb4); have HS4 := Lib.hid (Nat.le_trans HSB.out hb4.size); clear hb4) | (go_at_call 44; refine (HWS.out _ HBU4.out HS4.out).mono ?_; rintro e w5 ⟨rfl, hbu5, hb5⟩; rw [HST.out] at hbu5; have HBU5 := Lib.hid (show Lib.IsBuilder 89 5 (w.heap.size + 1) (w.heap.size + 1) (Lib.byteCells (acc ++ b.data.toList.take 63)) w5 from .inr hbu5); have HBW5 := Lib.hid (HBW4.out.trans hb5); have HS5 := Lib.hid (Nat.le_trans HS4.out hb5.size); clear hbu5 hb5) | (go_at_call 46; refine (HSTR.out _ HBU5.out HS5.out).mono ?_; rintro e w6 ⟨rfl, hb6⟩; have HBW6 := Lib.hid (HBW5.out.trans hb6); have HS6 := Lib.hid (Nat.le_trans HS5.out hb6.size); clear hb6) | (go_at_call 55; refine (HNX.out _).mono ?_; rintro e w7 ⟨rfl, hb7⟩; have HBW7 := Lib.hid (below_then HBW6.out HS6.out hb7); clear hb7) | (go_at_call 56; refine (HTR2.out _).mono ?_; rintro e w8 ⟨rfl, hw8⟩; have HBW8 := Lib.hid (show Below (w.heap.size + 1) (w.alloc (.cells #[.pointer (some ⟨g, 0, none⟩), .int .i64 f, .int .i64 m] 51)) w8 from by rcases hw8 with rfl | rfl; exact HBW7.out; exact below_drew1 HBW7.out); clear hw8))
  simp only [Exit.jump]
  go_ret2
  exact ⟨rfl, below_then HB.out HB.out.size (by have hh := (by first | exact HBW8.out | exact HBW7.out : Below (w.heap.size + 1) _ _); exact ⟨hh.os, hh.tape, hh.output, hh.size, fun k hk => hh.block k (by simpa using hk)⟩)⟩
 ·rintro a' W ⟨n, acc, u8, u9, u10, u11, u12, u13, u14, u15, u16, u17, u18, u19, u20, u21, u22, u23, u24, u25, u26, u27, u28, u29, u30, u31, u32, u33, u34, u35, u36, u37, u38, u39, u40, u41, u42, u43, u44, u45, u46, u47, u48, u49, u50, u51, u52, u53, rfl, HBU, HBW, HRC, hnm, hal⟩
  obtain ⟨x0, x1, x2⟩ := blk_cells3 ((HBW.out.block w.heap.size (by omega)).trans HN.out)
  have hw : wrap64 (i + (n : Int)) = i + (n : Int) := by unfold wrap64; omega
  have HBW0 := Lib.hid (show Below w.heap.size w W from below_then HB.out HB.out.size ⟨HBW.out.os, HBW.out.tape, HBW.out.output, HBW.out.size, fun k hk => HBW.out.block k (by simpa using hk)⟩)
  by_cases c0 : i + (n : Int) = m
  ·have d0 : (i + (n : Int) == m) = true := beq_iff_eq.mpr c0
   have hx := HRC.out
   rw [show (m - (i + (n : Int))).toNat = 0 by omega] at hx
   simp only [tr_rec, Option.some.injEq, Prod.mk.injEq] at hx
   obtain ⟨rfl, rfl⟩ := hx
   go_wp2
   simp only [Exit.jump]
   go_ret2
   exact ⟨rfl, HBW0.out⟩
  have d0 : (i + (n : Int) == m) = false := beq_eq_false_iff_ne.mpr c0
  have hw2 : wrap64 ((n : Int) + 1) = ((n + 1 : Nat) : Int) := by unfold wrap64; omega
  have HA := Lib.hid (HAT.out (i + (n : Int)) W HBW0.out (by omega) (by omega))
  have hsz := HZ.out (i + (n : Int)) (by omega) (by omega)
  change Hid (Calls _ _ _ _ (fun e w' => e = .returned (.string (tr_blk D f (i + (n : Int)))) ∧ _)) at HA
  have hd1 : (m - (i + (n : Int))).toNat = (m - (i + ((n + 1 : Nat) : Int))).toNat + 1 := by omega
  have hx := HRC.out
  rw [hd1, tr_rec, show i + (n : Int) + 1 = i + ((n + 1 : Nat) : Int) by omega, show (n : Int) + 1 = ((n + 1 : Nat) : Int) by omega] at hx
  generalize tr_blk D f (i + (n : Int)) = b at HA hsz hx
  have hbl : b.data.toList.length = 64 := by rw [← hsz]; exact Array.length_toList
  have hal2 : (acc ++ b.data.toList.take 63).length = 63 * (n + 1) := by
   rw [List.length_append, List.length_take, hbl]
   omega
  have hcl : (Lib.byteCells acc).length = 63 * n := by unfold Lib.byteCells; rw [List.length_map]; exact hal
  have h63 : (b.extract 0 63).size ≤ 63 := by rw [ByteArray.size_extract]; omega
  have HWS := Lib.hid (fun (W2 : World) (hB : Lib.IsBuilder 89 5 (w.heap.size + 1) (w.heap.size + 1) (Lib.byteCells acc) W2) (hs : w.heap.size + 1 ≤ W2.heap.size) => Tryd.Builder_WriteString (w.heap.size + 1) (w.heap.size + 1) _ (b.extract 0 63) W2 hB (by omega) hs)
  have HSTR := Lib.hid (fun (W2 : World) (hB : Lib.IsBuilder 89 5 (w.heap.size + 1) (w.heap.size + 1) (Lib.byteCells (acc ++ b.data.toList.take 63)) W2) (hs : w.heap.size + 1 ≤ W2.heap.size) => Tryd.Builder_String_any (w.heap.size + 1) (w.heap.size + 1) (acc ++ b.data.toList.take 63) W2 hB hs)
  have hst := tr_str63 b acc
  have e5 : 63 < b.size := by omega
  have hbt : bt b 63 = ((b[63]'e5).toNat : Int) := by unfold bt; exact dif_pos e5
  have e3 : (63 : Int) ≤ (b.size : Int) := by omega
  have e4 : (63 : Int) < (b.size : Int) := by omega
  have hsB : w.heap.size + 1 ≤ W.heap.size := by have := HBW.out.size; rw [World.size_alloc] at this; exact this
  have HX := Lib.hid hx
  have HAL := Lib.hid (And.intro hal2 (And.intro hnm c0))
  have HST := Lib.hid hst
  have HSB := Lib.hid hsB
  have HI := Lib.hid (And.intro h0 hm)
  clear hx hsz hal2 hd1 hcl h63 hbl hst hsB hnm hal c0 h0 h1 hm
  by_cases k1 : bt b 63 = 1
  ·have hx := HX.out
   rw [if_pos k1] at hx
   have HX2 := Lib.hid hx
   have k1b : (((b[63]'e5).toNat : Int) == 1) = true := beq_iff_eq.mpr (hbt ▸ k1)
   clear hx
   go_wp2_with (first | (go_at_call 35; refine HA.out.mono ?_; rintro e w4 ⟨rfl, hb4⟩; have HBU4 := Lib.hid (tr_builder_below HBU.out hb4); have HBW4 := Lib.hid (below_then HBW.out HSB.out hb4); have HS4 := Lib.hid (Nat.le_trans HSB.out hb4.size); clear hb4) | (go_at_call 44; refine (HWS.out _ HBU4.out HS4.out).mono ?_; rintro e w5 ⟨rfl, hbu5, hb5⟩; rw [HST.out] at hbu5; have HBU5 := Lib.hid (show Lib.IsBuilder 89 5 (w.heap.size + 1) (w.heap.size + 1) (Lib.byteCells (acc ++ b.data.toList.take 63)) w5 from .inr hbu5); have HBW5 := Lib.hid (HBW4.out.trans hb5); have HS5 := Lib.hid (Nat.le_trans HS4.out hb5.size); clear hbu5 hb5) | (go_at_call 46; refine (HSTR.out _ HBU5.out HS5.out).mono ?_; rintro e w6 ⟨rfl, hb6⟩; have HBW6 := Lib.hid (HBW5.out.trans hb6); have HS6 := Lib.hid (Nat.le_trans HS5.out hb6.size); clear hb6) | (go_at_call 55; refine (HNX.out _).mono ?_; rintro e w7 ⟨rfl, hb7⟩; have HBW7 := Lib.hid (below_then HBW6.out HS6.out hb7); clear hb7) | (go_at_call 56; refine (HTR2.out _).mono ?_; rintro e w8 ⟨rfl, hw8⟩; have HBW8 := Lib.hid (show Below (w.heap.size + 1) (w.alloc (.cells #[.pointer (some ⟨g, 0, none⟩), .int .i64 f, .int .i64 m] 51)) w8 from by rcases hw8 with rfl | rfl; exact HBW7.out; exact below_drew1 HBW7.out); clear hw8))
   go_step3
   refine ⟨rfl, ⟨n + 1, acc ++ b.data.toList.take 63, _, _, _, _, _, _, _, _, _, _, _, _, _, _, _, _, _, _, _, _, _, _, _, _, _, _, _, _, _, _, _, _, _, _, _, _, _, _, _, _, _, _, _, _, _, _, rfl, HBU5, HBW5, HX2, by have := HAL.out; omega, HAL.out.1⟩, ?_⟩
   show (m - (i + ((n + 1 : Nat) : Int))).toNat < (m - (i + (n : Int))).toNat
   have := HAL.out
   omega
  have k1b : (((b[63]'e5).toNat : Int) == 1) = false := beq_eq_false_iff_ne.mpr (hbt ▸ k1)
  by_cases k2 : bt b 63 = 2
  rotate_left
  ·have hx := HX.out
   rw [if_neg k1, if_neg k2] at hx
   simp only [Option.some.injEq, Prod.mk.injEq] at hx
   obtain ⟨rfl, rfl⟩ := hx
   have k2b : (((b[63]'e5).toNat : Int) == 2) = false := beq_eq_false_iff_ne.mpr (hbt ▸ k2)
   go_wp2_with (first | (go_at_call 35; refine HA.out.mono ?_; rintro e w4 ⟨rfl, hb4⟩; have HBU4 := Lib.hid (tr_builder_below HBU.out hb4); have HBW4 := Lib.hid (below_then HBW.out HSB.out hb4); have HS4 := Lib.hid (Nat.le_trans HSB.out hb4.size); clear hb4) | (go_at_call 44; refine (HWS.out _ HBU4.out HS4.out).mono ?_; rintro e w5 ⟨rfl, hbu5, hb5⟩; rw [HST.out] at hbu5; have HBU5 := Lib.hid (show Lib.IsBuilder 89 5 (w.heap.size + 1) (w.heap.size + 1) (Lib.byteCells (acc ++ b.data.toList.take 63)) w5 from .inr hbu5); have HBW5 := Lib.hid (HBW4.out.trans hb5); have HS5 := Lib.hid (Nat.le_trans HS4.out hb5.size); clear hbu5 hb5) | (go_at_call 46; refine (HSTR.out _ HBU5.out HS5.out).mono ?_; rintro e w6 ⟨rfl, hb6⟩; have HBW6 := Lib.hid (HBW5.out.trans hb6); have HS6 := Lib.hid (Nat.le_trans HS5.out hb6.size); clear hb6) | (go_at_call 55; refine (HNX.out _).mono ?_; rintro e w7 ⟨rfl, hb7⟩; have HBW7 := Lib.hid (below_then HBW6.out HS6.out hb7); clear hb7) | (go_at_call 56; refine (HTR2.out _).mono ?_; rintro e w8 ⟨rfl, hw8⟩; have HBW8 := Lib.hid (show Below (w.heap.size + 1) (w.alloc (.cells #[.pointer (some ⟨g, 0, none⟩), .int .i64 f, .int .i64 m] 51)) w8 from by rcases hw8 with rfl | rfl; exact HBW7.out; exact below_drew1 HBW7.out); clear hw8))
   simp only [Exit.jump]
   go_ret2
   exact ⟨rfl, below_then HB.out HB.out.size ⟨HBW5.out.os, HBW5.out.tape, HBW5.out.output, HBW5.out.size, fun k hk => HBW5.out.block k (by simpa using hk)⟩⟩
  have k2b : (((b[63]'e5).toNat : Int) == 2) = true := beq_iff_eq.mpr (hbt ▸ k2)
  have hx := HX.out
  rw [if_neg k1, if_pos k2] at hx
  unfold tr_end at hx
  obtain ⟨q, hq, hx0⟩ := Option.bind_eq_some_iff.mp hx
  obtain ⟨q1, q2, q3⟩ := q
  clear hx
  have hx := Option.some.inj hx0
  clear hx0
  simp only at hx
  have HNX := Lib.hid (fun (W2 : World) => sum_Next.calls _ q1 q2 q3 W2 hq)
  have HTR := Lib.hid (fun (W2 : World) (hs : q2.size ≤ 9223372036854775807) => (show Calls Tryd.prog 56 #[.string q2, .string ⟨#[0]⟩] W2 (fun e w' => e = .returned (.string (tr_trim q2)) ∧ (w' = W2 ∨ w' = W2.drew)) from Tryd.strings_Trim_one q2 0 (by decide) W2 hs))
  generalize tr_trim q2 = TT at HTR hx
  clear hq
  by_cases z1 : q3 = 0
  rotate_left
  ·rw [if_neg z1] at hx
   simp only [Prod.mk.injEq] at hx
   obtain ⟨rfl, rfl⟩ := hx
   have z1b : (q3 != 0) = true := bne_iff_ne.mpr z1
   go_wp2_with (first | (go_at_call 35; refine HA.out.mono ?_; rintro e w4 ⟨rfl, hb4⟩; have HBU4 := Lib.hid (tr_builder_below HBU.out hb4); have HBW4 := Lib.hid (below_then HBW.out HSB.out hb4); have HS4 := Lib.hid (Nat.le_trans HSB.out hb4.size); clear hb4) | (go_at_call 44; refine (HWS.out _ HBU4.out HS4.out).mono ?_; rintro e w5 ⟨rfl, hbu5, hb5⟩; rw [HST.out] at hbu5; have HBU5 := Lib.hid (show Lib.IsBuilder 89 5 (w.heap.size + 1) (w.heap.size + 1) (Lib.byteCells (acc ++ b.data.toList.take 63)) w5 from .inr hbu5); have HBW5 := Lib.hid (HBW4.out.trans hb5); have HS5 := Lib.hid (Nat.le_trans HS4.out hb5.size); clear hbu5 hb5) | (go_at_call 46; refine (HSTR.out _ HBU5.out HS5.out).mono ?_; rintro e w6 ⟨rfl, hb6⟩; have HBW6 := Lib.hid (HBW5.out.trans hb6); have HS6 := Lib.hid (Nat.le_trans HS5.out hb6.size); clear hb6) | (go_at_call 55; refine (HNX.out _).mono ?_; rintro e w7 ⟨rfl, hb7⟩; have HBW7 := Lib.hid (below_then HBW6.out HS6.out hb7); clear hb7) | (go_at_call 56; refine (HTR2.out _).mono ?_; rintro e w8 ⟨rfl, hw8⟩; have HBW8 := Lib.hid (show Below (w.heap.size + 1) (w.alloc (.cells #[.pointer (some ⟨g, 0, none⟩), .int .i64 f, .int .i64 m] 51)) w8 from by rcases hw8 with rfl | rfl; exact HBW7.out; exact below_drew1 HBW7.out); clear hw8))
   simp only [Exit.jump]
   go_ret2
   exact ⟨rfl, below_then HB.out HB.out.size (by have hh := (by first | exact HBW8.out | exact HBW7.out : Below (w.heap.size + 1) _ _); exact ⟨hh.os, hh.tape, hh.output, hh.size, fun k hk => hh.block k (by simpa using hk)⟩)⟩
  rw [if_pos z1] at hx
  subst z1
  by_cases z2 : q2.size < 63
  rotate_left
  ·rw [if_neg z2] at hx
   simp only [Prod.mk.injEq] at hx
   obtain ⟨rfl, rfl⟩ := hx
   have z2a : (63 : Int) ≤ (q2.size : Int) := by omega
   have z2b : decide ((63 : Int) ≤ (q2.size : Int)) = true := decide_eq_true z2a
   have z2c : 63 ≤ q2.size := by omega
   go_wp2_with (first | (go_at_call 35; refine HA.out.mono ?_; rintro e w4 ⟨rfl, hb4⟩; have HBU4 := Lib.hid (tr_builder_below HBU.out hb4); have HBW4 := Lib.hid (below_then HBW.out HSB.out hb4); have HS4 := Lib.hid (Nat.le_trans HSB.out hb4.size); clear hb4) | (go_at_call 44; refine (HWS.out _ HBU4.out HS4.out).mono ?_; rintro e w5 ⟨rfl, hbu5, hb5⟩; rw [HST.out] at hbu5; have HBU5 := Lib.hid (show Lib.IsBuilder 89 5 (w.heap.size + 1) (w.heap.size + 1) (Lib.byteCells (acc ++ b.data.toList.take 63)) w5 from .inr hbu5); have HBW5 := Lib.hid (HBW4.out.trans hb5); have HS5 := Lib.hid (Nat.le_trans HS4.out hb5.size); clear hbu5 hb5) | (go_at_call 46; refine (HSTR.out _ HBU5.out HS5.out).mono ?_; rintro e w6 ⟨rfl, hb6⟩; have HBW6 := Lib.hid (HBW5.out.trans hb6); have HS6 := Lib.hid (Nat.le_trans HS5.out hb6.size); clear hb6) | (go_at_call 55; refine (HNX.out _).mono ?_; rintro e w7 ⟨rfl, hb7⟩; have HBW7 := Lib.hid (below_then HBW6.out HS6.out hb7); clear hb7) | (go_at_call 56; refine (HTR2.out _).mono ?_; rintro e w8 ⟨rfl, hw8⟩; have HBW8 := Lib.hid (show Below (w.heap.size + 1) (w.alloc (.cells #[.pointer (some ⟨g, 0, none⟩), .int .i64 f, .int .i64 m] 51)) w8 from by rcases hw8 with rfl | rfl; exact HBW7.out; exact below_drew1 HBW7.out); clear hw8))
   simp only [Exit.jump]
   go_ret2
   exact ⟨rfl, below_then HB.out HB.out.size (by have hh := (by first | exact HBW8.out | exact HBW7.out : Below (w.heap.size + 1) _ _); exact ⟨hh.os, hh.tape, hh.output, hh.size, fun k hk => hh.block k (by simpa using hk)⟩)⟩
  rw [if_pos z2] at hx
  have z2a : ¬ (63 : Int) ≤ (q2.size : Int) := by omega
  have z2b : decide ((63 : Int) ≤ (q2.size : Int)) = false := decide_eq_false z2a
  have z2c : ¬ 63 ≤ q2.size := by omega
  have HTR2 := Lib.hid (fun (W2 : World) => HTR.out W2 (by omega))
  by_cases z3 : TT.size = 0
  rotate_left
  ·rw [if_neg z3] at hx
   simp only [Prod.mk.injEq] at hx
   obtain ⟨rfl, rfl⟩ := hx
   have z3a : TT.toList ≠ ([] : List UInt8) := fun e => z3 (by rw [ByteArray.toList_eq] at e; show TT.data.size = 0; rw [← Array.length_toList, e]; rfl)
   have z3b : (TT.toList != ([] : List UInt8)) = true := bne_iff_ne.mpr z3a
   have z3c : (TT.toList == ([] : List UInt8)) = false := beq_eq_false_iff_ne.mpr z3a
   have z3d : TT.toList.isEmpty = false := by rw [← Bool.not_eq_true, List.isEmpty_iff]; exact z3a
   clear z3
   go_wp2_with (first | (go_at_call 35; refine HA.out.mono ?_; rintro e w4 ⟨rfl, hb4⟩; have HBU4 := Lib.hid (tr_builder_below HBU.out hb4); have HBW4 := Lib.hid (below_then HBW.out HSB.out hb4); have HS4 := Lib.hid (Nat.le_trans HSB.out hb4.size); clear hb4) | (go_at_call 44; refine (HWS.out _ HBU4.out HS4.out).mono ?_; rintro e w5 ⟨rfl, hbu5, hb5⟩; rw [HST.out] at hbu5; have HBU5 := Lib.hid (show Lib.IsBuilder 89 5 (w.heap.size + 1) (w.heap.size + 1) (Lib.byteCells (acc ++ b.data.toList.take 63)) w5 from .inr hbu5); have HBW5 := Lib.hid (HBW4.out.trans hb5); have HS5 := Lib.hid (Nat.le_trans HS4.out hb5.size); clear hbu5 hb5) | (go_at_call 46; refine (HSTR.out _ HBU5.out HS5.out).mono ?_; rintro e w6 ⟨rfl, hb6⟩; have HBW6 := Lib.hid (HBW5.out.trans hb6); have HS6 := Lib.hid (Nat.le_trans HS5.out hb6.size); clear hb6) | (go_at_call 55; refine (HNX.out _).mono ?_; rintro e w7 ⟨rfl, hb7⟩; have HBW7 := Lib.hid (below_then HBW6.out HS6.out hb7); clear hb7) | (go_at_call 56; refine (HTR2.out _).mono ?_; rintro e w8 ⟨rfl, hw8⟩; have HBW8 := Lib.hid (show Below (w.heap.size + 1) (w.alloc (.cells #[.pointer (some ⟨g, 0, none⟩), .int .i64 f, .int .i64 m] 51)) w8 from by rcases hw8 with rfl | rfl; exact HBW7.out; exact below_drew1 HBW7.out); clear hw8))
   simp only [Exit.jump]
   go_ret2
   exact ⟨rfl, below_then HB.out HB.out.size (by have hh := (by first | exact HBW8.out | exact HBW7.out : Below (w.heap.size + 1) _ _); exact ⟨hh.os, hh.tape, hh.output, hh.size, fun k hk => hh.block k (by simpa using hk)⟩)⟩
  rw [if_pos z3] at hx
  simp only [Prod.mk.injEq] at hx
  obtain ⟨rfl, rfl⟩ := hx
  have z3a : TT.toList = ([] : List UInt8) := by rw [ByteArray.toList_eq]; exact List.eq_nil_of_length_eq_zero (by rw [Array.length_toList]; exact z3)
  have z3b : (TT.toList != ([] : List UInt8)) = false := bne_eq_false_iff_eq.mpr z3a
  have z3c : (TT.toList == ([] : List UInt8)) = true := beq_iff_eq.mpr z3a
  have z3d : TT.toList.isEmpty = true := List.isEmpty_iff.mpr z3a
  clear z3
  go_wp2_with (first | (go_at_call 35; refine HA.out.mono ?_; rintro e w4 ⟨rfl, hb4⟩; have HBU4 := Lib.hid (tr_builder_below HBU.out hb4); have HBW4 := Lib.hid (below_then HBW.out HSB.out hb4); have HS4 := Lib.hid (Nat.le_trans HSB.out hb4.size); clear hb4) | (go_at_call 44; refine (HWS.out _ HBU4.out HS4.out).mono ?_; rintro e w5 ⟨rfl, hbu5, hb5⟩; rw [HST.out] at hbu5; have HBU5 := Lib.hid (show Lib.IsBuilder 89 5 (w.heap.size + 1) (w.heap.size + 1) (Lib.byteCells (acc ++ b.data.toList.take 63)) w5 from .inr hbu5); have HBW5 := Lib.hid (HBW4.out.trans hb5); have HS5 := Lib.hid (Nat.le_trans HS4.out hb5.size); clear hbu5 hb5) | (go_at_call 46; refine (HSTR.out _ HBU5.out HS5.out).mono ?_; rintro e w6 ⟨rfl, hb6⟩; have HBW6 := Lib.hid (HBW5.out.trans hb6); have HS6 := Lib.hid (Nat.le_trans HS5.out hb6.size); clear hb6) | (go_at_call 55; refine (HNX.out _).mono ?_; rintro e w7 ⟨rfl, hb7⟩; have HBW7 := Lib.hid (below_then HBW6.out HS6.out hb7); clear hb7) | (go_at_call 56; refine (HTR2.out _).mono ?_; rintro e w8 ⟨rfl, hw8⟩; have HBW8 := Lib.hid (show Below (w.heap.size + 1) (w.alloc (.cells #[.pointer (some ⟨g, 0, none⟩), .int .i64 f, .int .i64 m] 51)) w8 from by rcases hw8 with rfl | rfl; exact HBW7.out; exact below_drew1 HBW7.out); clear hw8))
  simp only [Exit.jump]
  go_ret2
  exact ⟨rfl, below_then HB.out HB.out.size (by have hh := (by first | exact HBW8.out | exact HBW7.out : Below (w.heap.size + 1) _ _); exact ⟨hh.os, hh.tape, hh.output, hh.size, fun k hk => hh.block k (by simpa using hk)⟩)⟩
def tr_recs (D : Dv) (f m : Int) : Nat → Int → Option (List ByteArray × Int)
 | 0, _ => none
 | k + 1, u => (tr_rec D f (m - u).toNat u [] 0).bind fun p => if p.2 = 0 then some ([], u) else (tr_recs D f m k (u + p.2)).map fun q => (p.1 :: q.1, q.2)
theorem tr_rec_le (D : Dv) (f : Int) : ∀ (d : Nat) (p : Int) (acc : List UInt8) (n : Int) (s : ByteArray) (r : Int), tr_rec D f d p acc n = some (s, r) → 0 ≤ n → r = 0 ∨ (n < r ∧ r ≤ n + d)
 | 0, p, acc, n, s, r, h, _ => by
  simp only [tr_rec, Option.some.injEq, Prod.mk.injEq] at h
  exact .inl h.2.symm
 | d + 1, p, acc, n, s, r, h, hn => by
  rw [tr_rec] at h
  split at h
  ·rcases tr_rec_le D f d _ _ _ s r h (by omega) with h | h
   ·exact .inl h
   ·exact .inr ⟨by omega, by omega⟩
  ·split at h
   ·unfold tr_end at h
    obtain ⟨q, _, hx⟩ := Option.bind_eq_some_iff.mp h
    have hx2 := Option.some.inj hx
    clear hx h
    split at hx2
    ·split at hx2
     ·split at hx2
      ·simp only [Prod.mk.injEq] at hx2
       exact .inr ⟨by omega, by omega⟩
      ·simp only [Prod.mk.injEq] at hx2
       exact .inl hx2.2.symm
     ·simp only [Prod.mk.injEq] at hx2
      exact .inl hx2.2.symm
    ·simp only [Prod.mk.injEq] at hx2
     exact .inl hx2.2.symm
   ·simp only [Option.some.injEq, Prod.mk.injEq] at h
    exact .inl h.2.symm
theorem tr_wpList_run {P : Program} {ops : Array Oper} {rest : List Oper} {op : Oper} {a : Act} {w : World} {Q : Exit → Act → World → Prop} (hgd : op.guard = none) {v : Value} {w1 : World} (hrun : (execOp a.eval op).run P w = .ok (.value v) w1) (h : wpList P ops Q rest (a.put op.dst v) w1) : wpList P ops Q (op :: rest) a w := by
 refine wpList_plain hgd fun _ hK => ?_
 unfold Oper.wp
 rw [hrun]
 exact hK _ _ h
set_option maxHeartbeats 4000000 in
set_option maxRecDepth 100000 in
theorem tr_Records (g : Nat) (D : Dv) (f m : Int) (k : Nat) (L : List ByteArray) (U : Int) (w : World) (hD : DR w g D) (hb : D.b.length ≤ 4096) (h : tr_in D.b.length f m) (hz : ∀ p, 0 ≤ p → p < m → (tr_blk D f p).size = 64) (hr : tr_recs D f m k 0 = some (L, U)) :
  Calls Tryd.prog 22 #[.agg #[.pointer (some ⟨g, 0, none⟩), .int .i64 f, .int .i64 m]] w fun e w' => ∃ v, e = .returned (.tuple #[v, .int .i64 U]) ∧ TRow st_enc 1 9 w' v L ∧ (∀ k, v.ownBlock = some k → w.heap.size ≤ k) ∧ Below w.heap.size w w' := by
 have hn := blk_new w (.cells #[.pointer (some ⟨g, 0, none⟩), .int .i64 f, .int .i64 m] 51)
 have hbl := below_alloc (Below.refl w.heap.size w) (.cells #[.pointer (some ⟨g, 0, none⟩), .int .i64 f, .int .i64 m] 51)
 have HRE := Lib.hid (fun (u : Int) (s : ByteArray) (r : Int) (W : World) (hW : Below w.heap.size w W) (hu0 : 0 ≤ u) (hu1 : u ≤ m) (hq : tr_rec D f (m - u).toNat u [] 0 = some (s, r)) => tr_record g D f m u s r W (DR.below hD hW) hb h hu0 hu1 hz hq)
 have hm : m ≤ 4096 := by have := h.2.2.2; have := h.2.1; omega
 have hm0 : 0 ≤ m := h.1
 have HM := Lib.hid (And.intro hm0 hm)
 have HN := Lib.hid hn
 have HB := Lib.hid hbl
 have HR := Lib.hid hr
 clear hz hr hn hbl hD hb h hm hm0
 obtain ⟨i0, hi0, hz0⟩ := info_parts info9
 have HI := Lib.hid (And.intro hi0 hz0)
 clear hi0 hz0
 go_enter Tryd.func22, Tryd.ntmps22
 go_wp2
 go_loopw [4, 5] (fun v4 v5 W => ∃ (u : Int) (j : Nat) (done rest : List ByteArray), v5 = .int .i64 u ∧ 0 ≤ u ∧ u ≤ m ∧ (done.length : Int) ≤ u ∧ Hid (tr_recs D f m j u = some (rest, U)) ∧ Hid (L = done ++ rest) ∧ Hid (TRow st_enc 1 9 W v4 done) ∧ Hid (∀ k, v4.ownBlock = some k → w.heap.size < k) ∧ Hid (Below (w.heap.size + 1) (w.alloc (.cells #[.pointer (some ⟨g, 0, none⟩), .int .i64 f, .int .i64 m] 51)) W)) (fun _ v5 _ => (m - intOf v5).toNat)
 case atStart => exact ⟨0, k, [], L, rfl, by omega, HM.out.1, by simp, HR, Lib.hid rfl, Lib.hid (TRow.nil _ _ _ _), Lib.hid (fun k hk => by simp [Value.ownBlock] at hk), Lib.hid (Below.refl _ _)⟩
 case round =>
  obtain ⟨u, j, done, rest, rfl, hu0, hu1, hul, HRC, HLL, HT, HO, HW⟩ := hrel
  obtain ⟨x0, x1, x2⟩ := blk_cells3 ((HW.out.block w.heap.size (by omega)).trans HN.out)
  have hBW : Below w.heap.size w wr := below_then HB.out HB.out.size ⟨HW.out.os, HW.out.tape, HW.out.output, HW.out.size, fun k hk => HW.out.block k (by simpa using hk)⟩
  have hsW : w.heap.size + 1 ≤ wr.heap.size := by have := HW.out.size; rw [World.size_alloc] at this; exact this
  have HBW := Lib.hid hBW
  have HSW := Lib.hid hsW
  clear hBW hsW
  cases j with
  | zero => exact absurd HRC.out (by simp [tr_recs])
  | succ j =>
   have hx := HRC.out
   rw [tr_recs] at hx
   obtain ⟨p, hp, hx2⟩ := Option.bind_eq_some_iff.mp hx
   obtain ⟨s, r⟩ := p
   clear hx
   have HREC := Lib.hid (HRE.out u s r wr HBW.out hu0 hu1 hp)
   have hle := tr_rec_le D f _ _ _ _ s r hp (Int.le_refl 0)
   simp only at hx2
   clear hp
   by_cases c : r = 0
   ·rw [if_pos c] at hx2
    simp only [Option.some.injEq, Prod.mk.injEq] at hx2
    obtain ⟨rfl, rfl⟩ := hx2
    subst c
    have hL := HLL.out
    rw [List.append_nil] at hL
    go_wp2_with (go_at_call 37; refine HREC.out.mono ?_; rintro e w4 ⟨rfl, hb4⟩; have HT4 := Lib.hid (HT.out.moved (fun k hk => hb4.block k (HT.out.lt k hk))); have HB4 := Lib.hid (below_then HBW.out HBW.out.size hb4); clear hb4)
    go_ret2
    exact ⟨_, rfl, by rw [hL]; exact HT4.out, fun k hk => by have := HO.out k hk; omega, HB4.out⟩
   ·rw [if_neg c] at hx2
    obtain ⟨q, hq, e⟩ := Option.map_eq_some_iff.mp hx2
    obtain ⟨q1, q2⟩ := q
    simp only [Prod.mk.injEq] at e
    obtain ⟨rfl, rfl⟩ := e
    have hr1 : 0 < r ∧ r ≤ m - u := by omega
    have hw : wrap64 (u + r) = u + r := by have := HM.out; unfold wrap64; omega
    have d : (r == 0) = false := beq_eq_false_iff_ne.mpr c
    have HQ := Lib.hid hq
    have HLE := Lib.hid (And.intro hr1 (And.intro hu0 (And.intro hu1 hul)))
    clear hle hx2 hq hr1 hu0 hu1 hul
    go_wp2_with (first | (go_at_call 37; refine HREC.out.mono ?_; rintro e w4 ⟨rfl, hb4⟩; have hn4 := blk_new w4 (.cells #[.string s] 9); have hb5 := below_alloc hb4 (.cells #[.string s] 9); have hs4 : wr.heap.size ≤ w4.heap.size := hb4.size; obtain ⟨v7, w7, hrun, ht7, hgr7, hat7⟩ := run_append_trow (P := Tryd.prog) (T := 22) (ty := 22) (enc := st_enc) (sz := 1) Tryd.underlying22 HI.out.1 HI.out.2.1 HI.out.2.2.1 rfl (by rw [HI.out.2.2.2]; decide) (fun _ => rfl) (fun y u hu => by simp [st_enc] at hu; rcases hu with rfl; rfl) (HT.out.moved (w' := w4.alloc (.cells #[.string s] 9)) (fun k hk => hb5.block k (HT.out.lt k hk))) s w4.heap.size (fun t u hu => by { rw [blk_cell hn4, ← hu]; unfold st_enc; rw [List.getElem?_toArray] }) (by { rw [HI.out.2.2.2]; have := HLE.out; have := HM.out; omega }); have HRUN := Lib.hid hrun; have HT7 := Lib.hid ht7; have HW7 := Lib.hid ((below_then HW.out HSW.out hb5).grown hgr7 (Nat.le_trans HSW.out hb5.size) (fun k hk => HO.out k hk)); have HO7 := Lib.hid (show ∀ k, v7.ownBlock = some k → w.heap.size < k from fun k hk => by { rcases hat7 with e | e; exact HO.out k (e ▸ hk); rw [e] at hk; cases hk; have := hb5.size; have := HSW.out; omega }); clear hn4 hb5 hb4 hs4 hrun ht7 hgr7 hat7) | (at_builtin; refine tr_wpList_run rfl (v := v7) (w1 := w7) (by simp [execOp, resolve, invoke, builtin, Act.eval, HRUN.out, Result.andThen]) ?_))
    go_roundw
    case rel => exact ⟨u + r, j, done ++ [s], q1, by first | (with_reducible rfl) | (rw [hw]), by have := HLE.out; omega, by have := HLE.out; omega, by have := HLE.out; simp only [List.length_append, List.length_cons, List.length_nil]; omega, HQ, Lib.hid (by rw [HLL.out]; simp), HT7, HO7, HW7⟩
    case measure => have := HLE.out; rw [hw]; simp only [intOf]; omega

end Go.Proofs.YthlnjbaichkipaaDoor.XR
