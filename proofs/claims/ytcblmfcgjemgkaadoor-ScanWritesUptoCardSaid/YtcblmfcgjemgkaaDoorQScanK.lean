-- by a program of this session
import Derived.Test.YtcblmfcgjemgkaaDoorQScanC
import Derived.Test.YtcblmfcgjemgkaaDoorXS12
import Derived.Test.YtcblmfcgjemgkaaDoorXS11
set_option linter.unusedVariables false
set_option linter.unusedSimpArgs false
/-! Tokens that are right, and their text: the program. -/
namespace Go.Proofs.YtcblmfcgjemgkaaDoor.XS
open Go.RowKit Go.Proofs.YtcblmfcgjemgkaaDoorW.PrintWords Go.Proofs.YtcblmfcgjemgkaaDoorW.PrintLast Go.Proofs.YtcblmfcgjemgkaaDoorW.PrintMore
theorem suffix_f (s : ByteArray) (hs : s.size < 4294967281) : strings_HasSuffix.f s ((⟨#[123, 123]⟩ : ByteArray).extract 0 1) = some (decide (s.data.toList.getLast? = some 123)) := by
  have e : ((⟨#[123, 123]⟩ : ByteArray).extract 0 1) = (⟨#[123]⟩ : ByteArray) := rfl
  unfold strings_HasSuffix.f stringslite_HasSuffix.f
  rw [e]
  have e1 : ((⟨#[123]⟩ : ByteArray).size : Int) = 1 := rfl
  rw [e1]
  by_cases c : s.size = 0
  · rw [if_neg (by omega)]
    have : s.data.toList = [] := List.eq_nil_of_length_eq_zero (by rw [← size_toL]; exact c)
    rw [this]
    rfl
  · have hw : wrap64 ((s.size : Int) - 1) = ((s.size - 1 : Nat) : Int) := by unfold wrap64; omega
    rw [hw, if_pos (by omega), if_pos (by omega), if_pos (by omega), Int.toNat_natCast, Option.bind_some, toList_data, toList_data, ext_ofL, ofL_toL]
    congr 1
    have hsz := size_toL s
    generalize s.data.toList = l at hsz ⊢
    have hl : l ≠ [] := by intro e; rw [e] at hsz; exact c hsz
    obtain ⟨L, b, rfl⟩ : ∃ L b, l = L ++ [b] := ⟨l.dropLast, l.getLast hl, (List.dropLast_concat_getLast hl).symm⟩
    have e3 : (⟨#[123]⟩ : ByteArray).data.toList = ([123] : List UInt8) := rfl
    have e4 : s.size - 1 = L.length := by rw [hsz]; simp
    have e5 : s.size - L.length = 1 := by rw [hsz]; simp
    rw [e4, e5, List.drop_left, e3, Bool.eq_iff_iff, beq_iff_eq, decide_eq_true_eq]
    simp
theorem contains_f {s : ByteArray} (hs : s.size < 4294967281) : strings_Contains.f s (⟨#[123, 123]⟩ : ByteArray) = some (!(fnd 123 s.data.toList).isNone) := by
  unfold strings_Contains.f
  rw [if_pos hs]
  have e : (⟨#[123, 123]⟩ : ByteArray).data.toList = [123, 123] := rfl
  unfold Lib.contains
  rw [e, index_two]
  cases fnd 123 s.data.toList with
  | none => rfl
  | some i => simp
theorem empty_iff (s : ByteArray) : s.toList = ([] : List UInt8) ↔ sc_empty s = true := sc_empty_iff s
theorem fine_j0 (t : S40) (next text : Bool) (h1 : t.f0 ≠ 1) (b : Bool) (hb : b = decide (t.f0 = 2 ∨ t.f0 = 3 ∨ t.f0 = 5)) : Ev (fun k => scan_fine.j0 k t.f0 b t.f0 t.f1 t.f2) (fineM t next text) := by
  unfold fineM
  rw [if_neg h1]
  by_cases c : t.f0 = 2 ∨ t.f0 = 3 ∨ t.f0 = 5
  · rw [decide_eq_true c] at hb
    subst hb
    rw [if_pos c]
    by_cases e : t.f1.toList = ([] : List UInt8)
    · rw [(empty_iff _).1 e, Bool.true_and]
      exact Ev.step (f := fun k => (scan_right.f k t.f2).bind fun t213 => some t213) (fun k => by rw [scan_fine.j0, if_pos rfl, if_pos e]) (Ev.bind (right_f _) (f := fun _ t213 => some t213) (Ev.now _))
    · have : sc_empty t.f1 = false := by rw [← Bool.not_eq_true, ← empty_iff]; exact e
      rw [this, Bool.false_and]
      exact Ev.step (f := fun _ => some false) (fun k => by rw [scan_fine.j0, if_pos rfl, if_neg e]) (Ev.now _)
  · rw [decide_eq_false c] at hb
    subst hb
    rw [if_neg c]
    have hlen : ((t.f2.length : Int) == 0) = decide (t.f2.length = 0) := by rw [Bool.eq_iff_iff, beq_iff_eq, decide_eq_true_eq]; omega
    by_cases d : t.f0 = 4 ∨ t.f0 = 6
    · rw [if_pos d]
      have hst : ∀ k, scan_fine.j0 (k + 1) t.f0 false t.f0 t.f1 t.f2 = if t.f1.toList = ([] : List UInt8) then some ((t.f2.length : Int) == 0) else some false := fun k => by
        rw [scan_fine.j0, if_neg (by decide)]
        rcases d with d | d <;> rw [d]
        · rw [if_pos rfl]
        · rw [if_neg (by decide), if_pos rfl]
      refine Ev.step hst ?_
      by_cases e : t.f1.toList = ([] : List UInt8)
      · rw [(empty_iff _).1 e, Bool.true_and, ← hlen]
        simp only [if_pos e]
        exact Ev.now _
      · have : sc_empty t.f1 = false := by rw [← Bool.not_eq_true, ← empty_iff]; exact e
        rw [this, Bool.false_and]
        simp only [if_neg e]
        exact Ev.now _
    · rw [if_neg d]
      exact Ev.step (f := fun _ => some false) (fun k => by rw [scan_fine.j0, if_neg (by decide), if_neg (fun x => d (Or.inl x)), if_neg (fun x => d (Or.inr x))]) (Ev.now _)
theorem fine_f (t : S40) (next text : Bool) (hs : t.f1.size < 4294967281) : Ev (fun k => scan_fine.f k t.f0 t.f1 t.f2 next text) (fineM t next text) := by
  by_cases h1 : t.f0 = 1
  · have hst : ∀ k, scan_fine.f k t.f0 t.f1 t.f2 next text = some (fineM t next text) := by
      intro k
      unfold scan_fine.f fineM
      rw [if_pos h1, if_pos h1]
      by_cases e : t.f1.toList = ([] : List UInt8)
      · rw [if_pos e, (empty_iff _).1 e]; rfl
      · have : sc_empty t.f1 = false := by rw [← Bool.not_eq_true, ← empty_iff]; exact e
        rw [if_neg e, this]
        by_cases l : t.f2.length = 0
        · rw [if_pos (by omega), decide_eq_true l, contains_f hs, Option.bind_some, suffix_f _ hs]
          cases (fnd 123 t.f1.data.toList).isNone <;> cases text <;> cases next <;> simp
        · rw [if_neg (by omega), decide_eq_false l]; rfl
    exact Ev.congr hst (Ev.now _)
  · have hb : ∀ n : Int, (t.f0 = n → n = 2 ∨ n = 3 ∨ n = 5) → True := fun _ _ => trivial
    by_cases c2 : t.f0 = 2
    · refine Ev.congr (f := fun k => scan_fine.j0 k t.f0 true t.f0 t.f1 t.f2) (fun k => ?_) (fine_j0 t next text h1 true (by simp [c2]))
      unfold scan_fine.f
      rw [if_neg h1, if_pos c2]
      have : (t.f0 == 2) = true := by rw [c2]; rfl
      rw [this]
    · by_cases c3 : t.f0 = 3
      · refine Ev.congr (f := fun k => scan_fine.j0 k t.f0 true t.f0 t.f1 t.f2) (fun k => ?_) (fine_j0 t next text h1 true (by simp [c3]))
        unfold scan_fine.f
        rw [if_neg h1, if_neg c2, if_pos c3]
        have : (t.f0 == 3) = true := by rw [c3]; rfl
        rw [this]
      · refine Ev.congr (f := fun k => scan_fine.j0 k t.f0 (t.f0 == 5) t.f0 t.f1 t.f2) (fun k => ?_) (fine_j0 t next text h1 _ (by rw [Bool.eq_iff_iff, beq_iff_eq, decide_eq_true_eq]; constructor; intro h; exact Or.inr (Or.inr h); rintro (h | h | h); exact absurd h c2; exact absurd h c3; exact h))
        unfold scan_fine.f
        rw [if_neg h1, if_neg c2, if_neg c3]
theorem check_drop {l : List S40} {i : Nat} (hi : i < l.length) : checkM (l.drop i) = (fineM l[i] (decide (i + 1 < l.length)) (if h : i + 1 < l.length then decide ((l[i + 1]).f0 = 1) else false) && checkM (l.drop (i + 1))) := by
  rw [List.drop_eq_getElem_cons hi]
  by_cases h : i + 1 < l.length
  · rw [dif_pos h, decide_eq_true h, List.drop_eq_getElem_cons h, checkM]
  · rw [dif_neg h, decide_eq_false h, List.drop_eq_nil_of_le (by omega), checkM, checkM, Bool.and_true]
theorem check_loop (l : List S40) (hl : l.length < 4611686018427387904) (hs : ∀ t ∈ l, t.f1.size < 4294967281) : ∀ (d i : Nat), i + d = l.length → Ev (fun k => scan_Check.l0 k l l (l.length : Int) (i : Int)) (if checkM (l.drop i) = true then 0 else 2)
  | 0, i, h => by
    rw [List.drop_eq_nil_of_le (by omega)]
    exact Ev.step (f := fun _ => some 0) (fun k => by rw [scan_Check.l0, if_neg (by omega)]) (Ev.now _)
  | d + 1, i, h => by
    have hi : i < l.length := by omega
    have hw := w_one (i := i) (by omega)
    have ih := check_loop l hl hs d (i + 1) (by omega)
    rw [check_drop hi]
    have hst : ∀ k, scan_Check.l0 (k + 1) l l (l.length : Int) (i : Int) = (scan_fine.f k (l[i]).f0 (l[i]).f1 (l[i]).f2 (decide (i + 1 < l.length)) (if h : i + 1 < l.length then decide ((l[i + 1]).f0 = 1) else false)).bind fun t => if t = true then scan_Check.l0 k l l (l.length : Int) ((i + 1 : Nat) : Int) else some 2 := fun k => by
      rw [scan_Check.l0, if_pos (by omega), if_pos (by omega), if_pos (by omega), hw, rd_tok hi]
      have e : decide (((i + 1 : Nat) : Int) < (l.length : Int)) = decide (i + 1 < l.length) := by rw [decide_eq_decide]; omega
      rw [e]
      by_cases h : i + 1 < l.length
      · rw [if_pos (by omega), if_pos (by omega), dif_pos h, rd_tok h]
        rfl
      · rw [if_neg (by omega), dif_neg h]
    refine Ev.step hst (Ev.bind (fine_f _ _ _ (hs _ (List.getElem_mem hi))) (f := fun k t => if t = true then scan_Check.l0 k l l (l.length : Int) ((i + 1 : Nat) : Int) else some 2) ?_)
    cases fineM l[i] (decide (i + 1 < l.length)) (if h : i + 1 < l.length then decide ((l[i + 1]).f0 = 1) else false) with
    | true => simp only [if_true, Bool.true_and]; exact ih
    | false => simp only [Bool.false_and, Bool.false_eq_true, if_false]; exact Ev.now _
theorem Check_f {l : List S40} (hl : l.length < 4611686018427387904) (hs : ∀ t ∈ l, t.f1.size < 4294967281) : Ev (fun k => scan_Check.f k l) (if checkM l = true then 0 else 2) := by
  unfold scan_Check.f
  exact check_loop l hl hs l.length 0 (by omega)
/-- The program's text of tokens. -/
def writeM (l : List S40) : ByteArray × Int := if checkM l = true then (if 1024 < (sc_text l).length then ((⟨#[]⟩ : ByteArray), 12) else (ofL (sc_text l), 0)) else ((⟨#[]⟩ : ByteArray), 2)
theorem Write_f {l : List S40} (hl : l.length < 4611686018427387904) (hs : ∀ t ∈ l, t.f1.size < 4294967281) (hb : (sc_text l).length ≤ 140737488355328) : Ev (fun k => scan_Write.f k l) (writeM l) := by
  unfold scan_Write.f writeM
  refine Ev.bind (Check_f hl hs) (f := fun _ why => if why = 0 then (if (sc_text l).length ≤ 140737488355328 then (if 1024 < (sc_text l).length then some ((⟨#[]⟩ : ByteArray), 12) else some ((⟨(sc_text l).toArray⟩ : ByteArray), 0)) else none) else some ((⟨#[]⟩ : ByteArray), why)) ?_
  by_cases c : checkM l = true
  · simp only [if_pos c, if_pos hb, if_true]
    split <;> exact Ev.now _
  · simp only [if_neg c]
    exact Ev.now _
end Go.Proofs.YtcblmfcgjemgkaaDoor.XS
