-- by px.py, a program of this session, over the kit's printer: functions given by hand stand beside printed ones. Lean checks all of it.
import Derived.Test.YtcblmfcgjemgkaaDoorZXS0
import Derived.Test.YtcblmfcgjemgkaaDoorZXS1
import Derived.Test.YtcblmfcgjemgkaaDoorZXS12
import Derived.Test.YtcblmfcgjemgkaaDoorZGA
import Derived.Test.YtcblmfcgjemgkaaDoorZGMax
import Derived.Deep.CutRange
import Derived.Deep.DeepCutAuto
namespace Go.Proofs.YtcblmfcgjemgkaaDoor.XS
open Go.RowKit Go.Proofs.YtcblmfcgjemgkaaDoorW.PrintWords Go.Proofs.YtcblmfcgjemgkaaDoorW.PrintLast Go.Proofs.YtcblmfcgjemgkaaDoorW.PrintMore
attribute [local go_sem] max2_int min2_int max_two min_two max_three min_three max_four min_four   -- for this text's walks alone
set_option linter.unusedVariables false
set_option linter.unusedSimpArgs false
def sc_words (k : Int) : ByteArray := if k = 3 then (⟨#[105, 102]⟩ : ByteArray) else if k = 5 then (⟨#[101, 97, 99, 104]⟩ : ByteArray) else if k = 4 then (⟨#[101, 108, 115, 101]⟩ : ByteArray) else if k = 6 then (⟨#[101, 110, 100]⟩ : ByteArray) else (⟨#[]⟩ : ByteArray)
theorem sc_words_f (k : Int) : scan_words.f k = some (sc_words k) := by
 unfold scan_words.f sc_words
 repeat' split
 all_goals rfl
theorem sc_words_size (k : Int) : (sc_words k).size ≤ 4 := by
 unfold sc_words
 repeat' split
 all_goals decide
def sc_head (t : S40) : ByteArray := if (sc_words t.f0).toList = ([] : List UInt8) then sc_words t.f0 else if 0 < t.f2.length then sc_words t.f0 ++ (⟨#[32]⟩ : ByteArray) else sc_words t.f0
def sc_join (l : List ByteArray) : ByteArray := ⟨(Lib.join (l.map (·.data.toList)) [46]).toArray⟩
def sc_tag (t : S40) : ByteArray := (((⟨#[123, 123]⟩ : ByteArray) ++ sc_head t) ++ sc_join t.f2) ++ (⟨#[125, 125]⟩ : ByteArray)
def sc_tok (t : S40) : ByteArray := if t.f0 = 1 then t.f1 else sc_tag t
def sc_text (l : List S40) : List UInt8 := (l.map fun t => (sc_tok t).data.toList).flatten
def scan_Write.f (k : Nat) (l0 : List S40) : Option (ByteArray × Int) := (scan_Check.f k l0).bind fun why => if why = 0 then (if (sc_text l0).length ≤ 140737488355328 then (if 1024 < (sc_text l0).length then some ((⟨#[]⟩ : ByteArray), 12) else some ((⟨(sc_text l0).toArray⟩ : ByteArray), 0)) else none) else some ((⟨#[]⟩ : ByteArray), why)
theorem scan_Write.mono : ∀ a0 k, LeO (scan_Write.f k a0) (scan_Write.f (k + 1) a0) := by
 intro a0 k
 unfold scan_Write.f
 exact LeO.bind (scan_Check.mono a0 k) (fun _ => LeO.refl _)
theorem sc_head_size (t : S40) : (sc_head t).size ≤ 5 := by
 have := sc_words_size t.f0
 unfold sc_head
 split
 ·omega
 ·split
  ·rw [ByteArray.size_append]
   have : (⟨#[32]⟩ : ByteArray).size = 1 := rfl
   omega
  ·omega
theorem sc_join_size (l : List ByteArray) : l.length ≤ (sc_join l).size + 1 := by
 have h : (sc_join l).size = (Lib.join (l.map (·.data.toList)) [46]).length := by simp [sc_join, ByteArray.size]
 rw [h]
 cases l with
 | nil => simp
 | cons x l =>
  rw [List.map_cons, Lib.join_cons, List.length_append, Lib.joinTail_length]
  simp only [List.length_cons, List.length_nil, List.length_map]
  omega
theorem sc_tag_size (t : S40) : (sc_tag t).size = 2 + (sc_head t).size + (sc_join t.f2).size + 2 := by
 unfold sc_tag
 rw [ByteArray.size_append, ByteArray.size_append, ByteArray.size_append]
 rfl
theorem sc_text_snoc (l : List S40) (t : S40) : sc_text (l ++ [t]) = sc_text l ++ (sc_tok t).data.toList := by
 unfold sc_text
 rw [List.map_append, List.flatten_append]
 simp
theorem sc_take (l : List S40) (i : Nat) (h : i < l.length) : l.take (i + 1) = l.take i ++ [rd_T40 l (i : Int)] := by
 have hr : rd_T40 l (i : Int) = l[i] := by
  unfold rd_T40
  rw [Int.toNat_natCast, List.getD_eq_getElem?_getD, List.getElem?_eq_getElem h]; rfl
 rw [hr, List.take_succ_eq_append_getElem h]
theorem sc_text_take (l : List S40) (i : Nat) : (sc_text (l.take i)).length ≤ (sc_text l).length := by
 have h : sc_text l = sc_text (l.take i) ++ sc_text (l.drop i) := by
  unfold sc_text
  rw [← List.flatten_append, ← List.map_append, List.take_append_drop]
 rw [h, List.length_append]
 omega
theorem sc_builder_below {T e : TypeId} {B b : Nat} {bs : List Value} {w w1 : World} (h : Lib.IsBuilder T e B b bs w) (hb : Below w.heap.size w w1) : Lib.IsBuilder T e B b bs w1 := by
 rcases h with ⟨h1, v, h2, h3, h4⟩ | ⟨h1, v, h2, h3, h4⟩
 ·exact .inl ⟨h1, v, (hb.block b (blk_lt h2)).trans h2, pw_own_below h3 hb, h4⟩
 ·exact .inr ⟨h1, v, (hb.block b (blk_lt h2)).trans h2, pw_own_below h3 hb, h4⟩
theorem sc_Join (A : Option Addr) (c : Nat) (l : List ByteArray) (w : World) (hC : Kd.C Kd.string w A l.length l) (hc : l.length ≤ c) (hs : (sc_join l).size + 4 ≤ 140737488355328) :
  Calls Tryd.prog 29 #[.slice A l.length c, .string (⟨#[46]⟩ : ByteArray)] w fun e w' => e = .returned (.string (sc_join l)) ∧ Below w.heap.size w w' := by
 rcases Nat.eq_zero_or_pos l.length with h0 | h0
 ·obtain rfl : l = [] := List.eq_nil_of_length_eq_zero h0
  refine (Tryd.strings_Join_none A c _ w).mono ?_
  rintro e w' ⟨rfl, rfl⟩
  exact ⟨rfl, Below.refl _ _⟩
 ·letI : Inhabited ByteArray := ⟨ByteArray.empty⟩
  obtain ⟨b, off, rfl, hb, hcl⟩ := gi_cells (enc := fun x : ByteArray => [Value.string x]) (d := Kd.string) (fun h => h) hC h0 Nat.one_pos
  have hj := sc_join_size l
  have hz : (sc_join l).size = (Lib.join (l.map (·.data.toList)) [46]).length := by simp [sc_join, ByteArray.size]
  refine (Tryd.strings_Join b off c l (⟨#[46]⟩ : ByteArray) w (fun j x hx => ?_) hb ?_ hc ?_).mono ?_
  ·have hjl := (List.getElem?_eq_some_iff.mp hx).1
   have h := hcl j hjl 0 (Value.string l[j]!) rfl
   rw [show (Kd.string : Kd ByteArray).sz = 1 from rfl, Nat.mul_one, Nat.add_zero] at h
   rw [h, List.getElem!_of_getElem? hx]
  ·omega
  ·show (Lib.join (l.map (·.data.toList)) [46]).length ≤ _
   omega
  ·rintro e w' ⟨rfl, hb⟩
   exact ⟨rfl, hb⟩
set_option maxHeartbeats 4000000 in
set_option maxRecDepth 100000 in
theorem scan_Write.calls (k : Nat) (A0 : Option Addr) (c0 : Nat) (l0 : List (S40)) (r1 : ByteArray) (r2 : Int) (w : World) (hr0 : Kd.C k40 w A0 l0.length l0) (hc0 : l0.length ≤ c0) (h : scan_Write.f k l0 = some (r1, r2)) (HG : GM w) :
  Calls Tryd.prog 15 #[.slice A0 l0.length c0] w fun e w' => e = .returned (.tuple #[.string r1, .int .i64 r2]) ∧ Below w.heap.size w w' := by
 have hu := Tryd.underlying40
 have hu57 := Tryd.underlying57
 unfold scan_Write.f at h
 obtain ⟨why, hch, h⟩ := Option.bind_eq_some_iff.mp h
 have HR := Lib.hid hr0
 have HMAX := Lib.hid (show l0.length ≤ 9223372036854775807 from hr0.2.1)
 have HB := Lib.hid (Below.refl w.heap.size w)
 have HCH := Lib.hid (scan_Check.calls k A0 c0 l0 why w hr0 hc0 hch HG)
 have HGG := Lib.hid HG
 clear hr0 hch HG
 by_cases c : why = 0
 rotate_left
 ·rw [if_neg c] at h
  simp only [Option.some.injEq, Prod.mk.injEq] at h
  obtain ⟨rfl, rfl⟩ := h
  have d : (why != 0) = true := bne_iff_ne.mpr c
  go_enter Tryd.func15, Tryd.ntmps15
  go_wp2_with (go_at_call 17; refine HCH.out.mono ?_; rintro e w3 ⟨rfl, hb3⟩; have HB3 := Lib.hid hb3; clear hb3)
  go_ret2
  exact ⟨by first | rfl | (simp; done), by repeat (first | exact HB3.out | apply below_drew1 | apply pw_below_drewN)⟩
 subst c
 rw [if_pos rfl] at h
 split at h
 rotate_left
 ·cases h
 rename_i hbig
 have HH := Lib.hid h
 have HBIG := Lib.hid hbig
 clear h hbig
 go_enter Tryd.func15, Tryd.ntmps15
 go_wp2_with (first | (go_at_call 17; refine HCH.out.mono ?_; rintro e w3 ⟨rfl, hb3⟩; have HB3 := Lib.hid hb3; clear hb3))
 obtain ⟨b, hb⟩ : ∃ b, b = w3.heap.size := ⟨_, rfl⟩
 have hwb : w.heap.size ≤ b := by rw [hb]; exact HB3.out.size
 have HBU := Lib.hid (show Lib.IsBuilder 57 5 w.heap.size b (Lib.byteCells (sc_text (l0.take 0))) (w3.alloc (.cells #[.pointer none, .slice none 0 0] 57)) from .inl ⟨hwb, .slice none 0 0, by rw [hb]; exact heap_alloc_new w3 _, World.ownsRow_nil _ _ _ _, by simp [Value.ownBlock]⟩)
 have HB4 := Lib.hid (below_alloc HB3.out (.cells #[.pointer none, .slice none 0 0] 57))
 rw [← hb]
 generalize w3.alloc (.cells #[.pointer none, .slice none 0 0] 57) = w4 at HBU HB4 ⊢
 clear hb HB3
 go_loopw [16] (fun v16 wr => ∃ i : Nat, v16 = .int .i64 (i : Int) ∧ i ≤ l0.length ∧ Hid (Lib.IsBuilder 57 5 w.heap.size b (Lib.byteCells (sc_text (l0.take i))) wr) ∧ Hid (Below w.heap.size w wr)) (fun v16 _ => l0.length - (intOf v16).toNat)
 case atStart => exact ⟨0, rfl, Nat.zero_le _, HBU, HB4⟩
 case round =>
  clear HBU HB4
  obtain ⟨i, rfl, hi, HBU, HBW⟩ := hrel
  by_cases hlt : i < l0.length
  rotate_left
  ·obtain rfl : i = l0.length := by omega
   have q1 : ¬ ((l0.length : Int) < (l0.length : Int)) := by omega
   have HBU2 := Lib.hid (show Lib.IsBuilder 57 5 w.heap.size b (Lib.byteCells (sc_text l0)) wr by have := HBU.out; rwa [List.take_length] at this)
   clear HBU
   have hcl : (Lib.byteCells (sc_text l0)).length = (sc_text l0).length := by unfold Lib.byteCells; rw [List.length_map]
   by_cases c1 : 1024 < (sc_text l0).length
   ·have h := HH.out
    rw [if_pos c1] at h
    simp only [Option.some.injEq, Prod.mk.injEq] at h
    obtain ⟨rfl, rfl⟩ := h
    have q2 : (1024 : Int) < ((Lib.byteCells (sc_text l0)).length : Int) := by rw [hcl]; omega
    have HLEN := Lib.hid (Tryd.Builder_Len w.heap.size b _ wr HBU2.out)
    generalize ((Lib.byteCells (sc_text l0)).length : Int) = n at q2 HLEN
    go_wp2_with (first | (go_at_call 30; refine HLEN.out.mono ?_; rintro e w5 ⟨rfl, rfl⟩))
    go_ret2
    exact ⟨by first | rfl | (simp; done), by repeat (first | exact HBW.out | apply below_drew1 | apply pw_below_drewN)⟩
   ·have h := HH.out
    rw [if_neg c1] at h
    simp only [Option.some.injEq, Prod.mk.injEq] at h
    obtain ⟨rfl, rfl⟩ := h
    have q2 : ¬ (1024 : Int) < ((Lib.byteCells (sc_text l0)).length : Int) := by rw [hcl]; omega
    have HLEN := Lib.hid (Tryd.Builder_Len w.heap.size b _ wr HBU2.out)
    have HSTR := Lib.hid (Tryd.Builder_String_any w.heap.size b (sc_text l0) wr HBU2.out HBW.out.size)
    generalize ((Lib.byteCells (sc_text l0)).length : Int) = n at q2 HLEN
    go_wp2_with (first | (go_at_call 30; refine HLEN.out.mono ?_; rintro e w5 ⟨rfl, rfl⟩) | (go_at_call 31; refine HSTR.out.mono ?_; rintro e w5 ⟨rfl, hb5⟩; have HB5 := Lib.hid (HBW.out.trans hb5); clear hb5))
    go_ret2
    exact ⟨by first | rfl | (simp; done), by repeat (first | exact HB5.out | apply below_drew1 | apply pw_below_drewN)⟩
  ·have q1 : (i : Int) < (l0.length : Int) := by omega
   have q0 : 0 ≤ (i : Int) := by omega
   obtain ⟨ad, A2, cP, e2, hx0, hx1, hx2, hl2, hi2⟩ := at_T40 HR.out (i : Int) q0 q1
   cases e2
   rw [Int.toNat_natCast] at hx0 hx1 hx2
   have hx0 := (HBW.out.cell (World.block_lt_of_cell? w _ hx0)).trans hx0
   have hx1 := (HBW.out.cell (World.block_lt_of_cell? w _ hx1)).trans hx1
   have hx2 := (HBW.out.cell (World.block_lt_of_cell? w _ hx2)).trans hx2
   have HP := Lib.hid (And.intro hl2 hi2)
   have HLT := Lib.hid hlt
   have hw64 : wrap64 ((i : Int) + 1) = ((i + 1 : Nat) : Int) := by unfold wrap64; have := HMAX.out; omega
   have HX := Lib.hid (sc_take l0 i hlt)
   clear hl2 hi2
   generalize rd_T40 l0 (i : Int) = t at *
   obtain ⟨tk, tt, tp⟩ := t
   simp only at *
   go_upto_region 8 with fail
   have HB1 := below_alloc (Below.refl wr.heap.size wr) (.cells #[.int .u8 tk, .string tt, .slice A2 tp.length cP] 40)
   have HBU1 := Lib.hid (sc_builder_below HBU.out HB1)
   have HBW1 := Lib.hid (below_alloc HBW.out (.cells #[.int .u8 tk, .string tt, .slice A2 tp.length cP] 40))
   have hrow := blk_new wr (.cells #[.int .u8 tk, .string tt, .slice A2 tp.length cP] 40)
   clear HB1 hx0 hx1 hx2 HBU HBW
   generalize wr.alloc (.cells #[.int .u8 tk, .string tt, .slice A2 tp.length cP] 40) = w6 at HBU1 HBW1 hrow ⊢
   generalize wr.heap.size = g at hrow ⊢
   have g0 : w6.cell? ⟨g, 0, none⟩ = some (.int .u8 tk) := (blk_cell hrow 0).trans rfl
   have g1 : w6.cell? ⟨g, 1, none⟩ = some (.string tt) := (blk_cell hrow 1).trans rfl
   have g2 : w6.cell? ⟨g, 2, none⟩ = some (.slice A2 tp.length cP) := (blk_cell hrow 2).trans rfl
   have HROW := Lib.hid hrow
   clear hrow
   have HTX : sc_text (l0.take (i + 1)) = sc_text (l0.take i) ++ (sc_tok ⟨tk, tt, tp⟩).data.toList := by rw [HX.out, sc_text_snoc]
   have hle : (sc_text (l0.take i)).length + (sc_tok ⟨tk, tt, tp⟩).size ≤ 140737488355328 := by
    have h1 := sc_text_take l0 (i + 1)
    rw [HTX, List.length_append] at h1
    have h2 := HBIG.out
    have h3 : (sc_tok ⟨tk, tt, tp⟩).data.toList.length = (sc_tok ⟨tk, tt, tp⟩).size := Array.length_toList
    omega
   have HTXH := Lib.hid HTX
   have HLE := Lib.hid hle
   clear HTX hle HX
   have hbl : (Lib.byteCells (sc_text (l0.take i))).length = (sc_text (l0.take i)).length := by unfold Lib.byteCells; rw [List.length_map]
   have HBLH := Lib.hid hbl
   clear hbl
   have hfin : ∀ W : World, Lib.IsBuilder 57 5 w.heap.size b (Lib.byteCells (sc_text (l0.take i)) ++ Lib.strCells (sc_tok ⟨tk, tt, tp⟩)) W → Lib.IsBuilder 57 5 w.heap.size b (Lib.byteCells (sc_text (l0.take (i + 1)))) W := by
    intro W h
    rw [HTXH.out]
    have e : Lib.byteCells (sc_text (l0.take i) ++ (sc_tok ⟨tk, tt, tp⟩).data.toList) = Lib.byteCells (sc_text (l0.take i)) ++ Lib.strCells (sc_tok ⟨tk, tt, tp⟩) := by
     unfold Lib.byteCells Lib.strCells
     rw [List.map_append]
    rw [e]
    exact h
   have HFIN := Lib.hid hfin
   clear hfin
   by_cases ck : tk = 1
   ·have es : sc_tok ⟨tk, tt, tp⟩ = tt := by unfold sc_tok; rw [if_pos ck]
    rw [es] at HTXH HLE HFIN
    have HWS := Lib.hid (Tryd.Builder_WriteString w.heap.size b _ tt w6 HBU1.out (by have := HLE.out; have := HBLH.out; omega) HBW1.out.size)
    have ck2 : (tk == 1) = true := beq_iff_eq.mpr ck
    go_wp2_with (first | (go_at_call 27; refine HWS.out.mono ?_; rintro e w7 ⟨rfl, hbu7, hb7⟩; have HBU7 := Lib.hid (HFIN.out w7 (.inr hbu7)); have HB7 := Lib.hid (HBW1.out.trans hb7); clear hbu7 hb7))
    go_roundw
    case rel => exact ⟨i + 1, by first | (with_reducible rfl) | (rw [hw64]), by have := HLT.out; omega, HBU7, HB7⟩
    case measure => have := HLT.out; rw [hw64]; simp [intOf]; omega
   ·have es : sc_tok ⟨tk, tt, tp⟩ = sc_tag ⟨tk, tt, tp⟩ := by unfold sc_tok; rw [if_neg ck]
    have hts := sc_tag_size ⟨tk, tt, tp⟩
    have hhs := sc_head_size ⟨tk, tt, tp⟩
    rw [es] at HTXH HLE HFIN
    have hsz := HLE.out
    rw [hts] at hsz
    simp only at hts hhs hsz
    have hb0 := HBLH.out
    have ck2 : (tk == 1) = false := beq_eq_false_iff_ne.mpr ck
    have HWS := Lib.hid (fun (W : World) (h : Lib.IsBuilder 57 5 w.heap.size b (Lib.byteCells (sc_text (l0.take i))) W) (hW : w.heap.size ≤ W.heap.size) => Tryd.Builder_WriteString w.heap.size b _ (sc_tag ⟨tk, tt, tp⟩) W h (by have := HLE.out; have := HBLH.out; omega) hW)
    have HJN := Lib.hid (fun (W : World) (h : Below w.heap.size w W) => sc_Join A2 cP tp W (Kd.C_below HP.out.2 h) HP.out.1 (by have := HLE.out; rw [hts] at this; omega))
    have HWD := Lib.hid (scan_words.calls tk (sc_words tk) w6 (sc_words_f tk))
    have htag : sc_tag ⟨tk, tt, tp⟩ = (((⟨#[123, 123]⟩ : ByteArray) ++ sc_head ⟨tk, tt, tp⟩) ++ sc_join tp) ++ (⟨#[125, 125]⟩ : ByteArray) := rfl
    have HTAG := Lib.hid htag
    have hhead : sc_head ⟨tk, tt, tp⟩ = if (sc_words tk).toList = ([] : List UInt8) then sc_words tk else if 0 < tp.length then sc_words tk ++ (⟨#[32]⟩ : ByteArray) else sc_words tk := rfl
    have HHEAD := Lib.hid hhead
    have hws := sc_words_size tk
    clear hhead htag
    generalize sc_tag ⟨tk, tt, tp⟩ = TG at *
    generalize sc_head ⟨tk, tt, tp⟩ = HD at *
    generalize sc_words tk = WD at *
    generalize sc_join tp = JN at *
    have HSZ := Lib.hid (And.intro hsz (And.intro hts (And.intro hhs hws)))
    clear hsz hts hhs hws hb0 es
    by_cases c1 : WD.toList = ([] : List UInt8)
    ·have e1 : HD = WD := by rw [HHEAD.out, if_pos c1]
     have d1 : (WD.toList == ([] : List UInt8)) = true := beq_iff_eq.mpr c1
     have d2 : (WD.toList != ([] : List UInt8)) = false := bne_eq_false_iff_eq.mpr c1
     have d3 : WD.toList.isEmpty = true := List.isEmpty_iff.mpr c1
     go_upto_region 13 with (first | (go_at_call 28; refine HWD.out.mono ?_; rintro e w7 ⟨rfl, ⟨nd, rfl⟩⟩))
     rw [← e1]
     clear d1 d2 d3 e1
     have s2 : ¬ 9223372036854775807 < 2 + HD.size := by have := HSZ.out; omega
     have s3 : ¬ 9223372036854775807 < 2 + HD.size + JN.size := by have := HSZ.out; omega
     have s4 : ¬ 9223372036854775807 < 2 + HD.size + JN.size + 2 := by have := HSZ.out; omega
     have HBW8 := Lib.hid (pw_below_drewN HBW1.out nd)
     have HBU8 := Lib.hid (sc_builder_below HBU1.out (pw_below_drewN (Below.refl w6.heap.size w6) nd))
     have h2 : (w6.drewN nd).cell? ⟨g, 2, none⟩ = some (.slice A2 tp.length cP) := g2
     go_wp2_with (first | (go_at_call 29; refine (HJN.out _ HBW8.out).mono ?_; rintro e w8 ⟨rfl, hb8⟩; have HB8 := Lib.hid (below_then HBW8.out HBW8.out.size hb8); have HBU9 := Lib.hid (sc_builder_below HBU8.out hb8); clear hb8) | (go_at_call 27; rw [← HTAG.out]; refine (HWS.out _ HBU9.out HB8.out.size).mono ?_; rintro e w9 ⟨rfl, hbu9, hb9⟩; have HBUF := Lib.hid (HFIN.out w9 (.inr hbu9)); have HBF := Lib.hid (HB8.out.trans hb9); clear hbu9 hb9))
     go_roundw
     case rel => exact ⟨i + 1, by first | (with_reducible rfl) | (rw [hw64]), by have := HLT.out; omega, HBUF, HBF⟩
     case measure => have := HLT.out; rw [hw64]; simp [intOf]; omega
    ·by_cases c2 : 0 < tp.length
     ·have e1 : HD = WD ++ (⟨#[32]⟩ : ByteArray) := by rw [HHEAD.out, if_neg c1, if_pos c2]
      have d1 : (WD.toList == ([] : List UInt8)) = false := beq_eq_false_iff_ne.mpr c1
      have d2 : (WD.toList != ([] : List UInt8)) = true := bne_iff_ne.mpr c1
      have d3 : WD.toList.isEmpty = false := by rw [← Bool.not_eq_true, List.isEmpty_iff]; exact c1
      have d4 : decide (0 < tp.length) = true := decide_eq_true c2
      have d5 : (0 < (tp.length : Int)) = True := eq_true (by omega)
      have s1 : ¬ 9223372036854775807 < WD.size + 1 := by have := HSZ.out; omega
      go_upto_region 13 with (first | (go_at_call 28; refine HWD.out.mono ?_; rintro e w7 ⟨rfl, ⟨nd, rfl⟩⟩))
      rw [← e1]
      clear d1 d2 d3 d4 d5 s1 e1
      have s2 : ¬ 9223372036854775807 < 2 + HD.size := by have := HSZ.out; omega
      have s3 : ¬ 9223372036854775807 < 2 + HD.size + JN.size := by have := HSZ.out; omega
      have s4 : ¬ 9223372036854775807 < 2 + HD.size + JN.size + 2 := by have := HSZ.out; omega
      have HBW8 := Lib.hid (pw_below_drewN HBW1.out nd)
      have HBU8 := Lib.hid (sc_builder_below HBU1.out (pw_below_drewN (Below.refl w6.heap.size w6) nd))
      have h2 : (w6.drewN nd).cell? ⟨g, 2, none⟩ = some (.slice A2 tp.length cP) := g2
      go_wp2_with (first | (go_at_call 29; refine (HJN.out _ HBW8.out).mono ?_; rintro e w8 ⟨rfl, hb8⟩; have HB8 := Lib.hid (below_then HBW8.out HBW8.out.size hb8); have HBU9 := Lib.hid (sc_builder_below HBU8.out hb8); clear hb8) | (go_at_call 27; rw [← HTAG.out]; refine (HWS.out _ HBU9.out HB8.out.size).mono ?_; rintro e w9 ⟨rfl, hbu9, hb9⟩; have HBUF := Lib.hid (HFIN.out w9 (.inr hbu9)); have HBF := Lib.hid (HB8.out.trans hb9); clear hbu9 hb9))
      go_roundw
      case rel => exact ⟨i + 1, by first | (with_reducible rfl) | (rw [hw64]), by have := HLT.out; omega, HBUF, HBF⟩
      case measure => have := HLT.out; rw [hw64]; simp [intOf]; omega
     ·have e1 : HD = WD := by rw [HHEAD.out, if_neg c1, if_neg c2]
      have d1 : (WD.toList == ([] : List UInt8)) = false := beq_eq_false_iff_ne.mpr c1
      have d2 : (WD.toList != ([] : List UInt8)) = true := bne_iff_ne.mpr c1
      have d3 : WD.toList.isEmpty = false := by rw [← Bool.not_eq_true, List.isEmpty_iff]; exact c1
      have d4 : decide (0 < tp.length) = false := decide_eq_false c2
      have d5 : (0 < (tp.length : Int)) = False := eq_false (by omega)
      go_upto_region 13 with (first | (go_at_call 28; refine HWD.out.mono ?_; rintro e w7 ⟨rfl, ⟨nd, rfl⟩⟩))
      rw [← e1]
      clear d1 d2 d3 d4 d5 e1
      have s2 : ¬ 9223372036854775807 < 2 + HD.size := by have := HSZ.out; omega
      have s3 : ¬ 9223372036854775807 < 2 + HD.size + JN.size := by have := HSZ.out; omega
      have s4 : ¬ 9223372036854775807 < 2 + HD.size + JN.size + 2 := by have := HSZ.out; omega
      have HBW8 := Lib.hid (pw_below_drewN HBW1.out nd)
      have HBU8 := Lib.hid (sc_builder_below HBU1.out (pw_below_drewN (Below.refl w6.heap.size w6) nd))
      have h2 : (w6.drewN nd).cell? ⟨g, 2, none⟩ = some (.slice A2 tp.length cP) := g2
      go_wp2_with (first | (go_at_call 29; refine (HJN.out _ HBW8.out).mono ?_; rintro e w8 ⟨rfl, hb8⟩; have HB8 := Lib.hid (below_then HBW8.out HBW8.out.size hb8); have HBU9 := Lib.hid (sc_builder_below HBU8.out hb8); clear hb8) | (go_at_call 27; rw [← HTAG.out]; refine (HWS.out _ HBU9.out HB8.out.size).mono ?_; rintro e w9 ⟨rfl, hbu9, hb9⟩; have HBUF := Lib.hid (HFIN.out w9 (.inr hbu9)); have HBF := Lib.hid (HB8.out.trans hb9); clear hbu9 hb9))
      go_roundw
      case rel => exact ⟨i + 1, by first | (with_reducible rfl) | (rw [hw64]), by have := HLT.out; omega, HBUF, HBF⟩
      case measure => have := HLT.out; rw [hw64]; simp [intOf]; omega


end Go.Proofs.YtcblmfcgjemgkaaDoor.XS
