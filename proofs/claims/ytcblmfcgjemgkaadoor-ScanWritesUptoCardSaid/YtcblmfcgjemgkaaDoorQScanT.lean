-- by a program of this session
import Derived.Test.YtcblmfcgjemgkaaDoorQScanK
import Derived.Test.YtcblmfcgjemgkaaDoorQScanR
import Derived.Test.YtcblmfcgjemgkaaDoorXS17
import Derived.Test.YtcblmfcgjemgkaaDoorXS18
set_option linter.unusedVariables false
set_option linter.unusedSimpArgs false
/-! Tokens that are right, and their text: the definition. -/
namespace Go.Proofs.YtcblmfcgjemgkaaDoor.XS
open Go.RowKit Go.Proofs.YtcblmfcgjemgkaaDoorW.PrintWords Go.Proofs.YtcblmfcgjemgkaaDoorW.PrintLast Go.Proofs.YtcblmfcgjemgkaaDoorW.PrintMore
theorem bt_last {s : ByteArray} (h : s.size ≠ 0) (hs : s.size ≤ 1048576) : 0 ≤ wrap64 ((s.size : Int) - 1) ∧ wrap64 ((s.size : Int) - 1) < (s.size : Int) ∧ (bt s (wrap64 ((s.size : Int) - 1)) = 123 ↔ s.data.toList.getLast? = some 123) := by
  have hw : wrap64 ((s.size : Int) - 1) = ((s.size - 1 : Nat) : Int) := by unfold wrap64; omega
  rw [hw]
  have hi : s.size - 1 < s.data.toList.length := by rw [← size_toL]; omega
  refine ⟨by omega, by omega, ?_⟩
  have := bt_is s (s.size - 1) hi 123
  have e : s.data.toList.getLast? = some (s.data.toList[s.size - 1]) := by
    have hz := size_toL s
    have hne : s.data.toList ≠ [] := by intro e; rw [e] at hz; exact h hz
    rw [List.getLast?_eq_some_getLast hne, List.getLast_eq_getElem]
    simp only [hz]
  rw [e, Option.some.injEq]
  exact this
theorem rcheck_loop (l : List S40) (hl : l.length ≤ 1048576) (hs : ∀ t ∈ l, t.f1.size ≤ 1048576) (hp : ∀ t ∈ l, t.f2.length < 4611686018427387904 ∧ ∀ x ∈ t.f2, x.size < 4611686018427387904) : ∀ (d i : Nat), i + d = l.length → Ev (fun k => bellmanref10_Check.l0 k l l (l.length : Int) (i : Int)) (if checkM (l.drop i) = true then 0 else 2)
  | 0, i, h => by
    rw [List.drop_eq_nil_of_le (by omega)]
    exact Ev.step (f := fun _ => some 0) (fun k => by rw [bellmanref10_Check.l0, if_neg (by omega)]) (Ev.now _)
  | d + 1, i, h => by
    have hi : i < l.length := by omega
    have hw := w_one (i := i) (by omega)
    have ih := rcheck_loop l hl hs hp d (i + 1) (by omega)
    rw [check_drop hi]
    have hrd := rd_tok hi
    have hts := hs _ (List.getElem_mem hi)
    have htp := hp _ (List.getElem_mem hi)
    generalize hb : (if h : i + 1 < l.length then decide ((l[i + 1]).f0 = 1) else false) = text
    generalize l[i] = t at hrd hts htp ⊢
    generalize checkM (l.drop (i + 1)) = rest at ih ⊢
    by_cases c1 : t.f0 = 1
    · by_cases ce : t.f1.toList = ([] : List UInt8)
      · have hf : fineM t (decide (i + 1 < l.length)) text = false := by unfold fineM; rw [if_pos c1, (empty_iff _).1 ce]; rfl
        rw [hf, Bool.false_and]
        exact Ev.step (f := fun _ => some 2) (fun k => by rw [bellmanref10_Check.l0, if_pos (by omega), if_pos (by omega), if_pos (by omega), hrd, if_pos c1, if_pos ce]) (Ev.now _)
      · have hse : sc_empty t.f1 = false := by rw [← Bool.not_eq_true, ← empty_iff]; exact ce
        have hsz : t.f1.size ≠ 0 := by
          intro e
          unfold sc_empty at hse
          rw [decide_eq_false_iff_not] at hse
          exact hse e
        let F : Nat → Int → Option Int := fun k t280 => (if t280 < 0 then (if ((t.f2).length : Int) = 0 then (if (wrap64 ((i : Int) + 1)) < (l.length : Int) then (if 0 ≤ (wrap64 ((i : Int) + 1)) then (if ((rd_T40 l (wrap64 ((i : Int) + 1))).f0) = 1 then (some 2) else (if 0 ≤ (wrap64 ((((t).f1).size : Int) - 1)) then (if (wrap64 ((((t).f1).size : Int) - 1)) < (((t).f1).size : Int) then (if (bt ((t).f1) (wrap64 ((((t).f1).size : Int) - 1))) = 123 then (some 2) else (bellmanref10_Check.l0 k l l (l.length : Int) (wrap64 ((i : Int) + 1)))) else (none)) else (none))) else (none)) else (bellmanref10_Check.l0 k l l (l.length : Int) (wrap64 ((i : Int) + 1)))) else (some 2)) else (some 2))
        refine Ev.step (f := fun k => (bellmanref10_find.f k t.f1 0 123).bind (F k)) (fun k => by rw [bellmanref10_Check.l0, if_pos (by omega), if_pos (by omega), if_pos (by omega), hrd, if_pos c1, if_neg ce]) ?_
        cases hf : fnd 123 t.f1.data.toList with
        | some j =>
          have hfi : fineM t (decide (i + 1 < l.length)) text = false := by unfold fineM; rw [if_pos c1, hf]; simp
          rw [hfi, Bool.false_and]
          have := rfind_at (s := t.f1) 123 hts (i := 0) (j := j) (by omega) (by rw [List.drop_zero]; exact hf)
          refine Ev.bind this (f := F) ?_
          have e : ∀ k, F k ((0 + j : Nat) : Int) = some 2 := fun k => by
            show (if _ then _ else _) = _
            rw [if_neg (by omega)]
          exact Ev.congr e (Ev.now _)
        | none =>
          have := rfind_no (s := t.f1) 123 hts (i := 0) (by omega) (by rw [List.drop_zero]; exact hf)
          refine Ev.bind this (f := F) ?_
          obtain ⟨b1, b2, b3⟩ := bt_last hsz hts
          have hfi : fineM t (decide (i + 1 < l.length)) text = (decide (t.f2.length = 0) && (!text && !(decide (i + 1 < l.length) && decide (t.f1.data.toList.getLast? = some 123)))) := by unfold fineM; rw [if_pos c1, hf, hse]; simp
          rw [hfi]
          have e : ∀ k, F k (-1) = if t.f2.length = 0 then (if i + 1 < l.length then (if text = true then some 2 else if t.f1.data.toList.getLast? = some 123 then some 2 else bellmanref10_Check.l0 k l l (l.length : Int) ((i + 1 : Nat) : Int)) else bellmanref10_Check.l0 k l l (l.length : Int) ((i + 1 : Nat) : Int)) else some 2 := fun k => by
            show (if _ then _ else _) = _
            rw [if_pos (by omega), hw]
            by_cases z : t.f2.length = 0
            · rw [if_pos (by omega), if_pos z]
              by_cases y : i + 1 < l.length
              · rw [if_pos (by omega), if_pos (by omega), if_pos y, rd_tok y, if_pos b1, if_pos b2]
                rw [dif_pos y] at hb
                subst hb
                simp only [decide_eq_true_eq, b3]
              · rw [if_neg (by omega), if_neg y]
            · rw [if_neg (by omega), if_neg z]
          refine Ev.congr e ?_
          by_cases z : t.f2.length = 0
          · rw [decide_eq_true z, Bool.true_and]
            simp only [if_pos z]
            by_cases y : i + 1 < l.length
            · rw [decide_eq_true y, Bool.true_and]
              simp only [if_pos y]
              cases text with
              | true => simp only [if_true]; exact Ev.now _
              | false =>
                by_cases x : t.f1.data.toList.getLast? = some 123
                · rw [decide_eq_true x]
                  simp only [if_pos x, Bool.false_eq_true, if_false]
                  exact Ev.now _
                · rw [decide_eq_false x]
                  simp only [if_neg x, Bool.false_eq_true, if_false, Bool.not_false, Bool.true_and]
                  exact ih
            · rw [dif_neg y] at hb
              subst hb
              rw [decide_eq_false y]
              simp only [if_neg y, Bool.not_false, Bool.true_and, Bool.false_and]
              exact ih
          · rw [decide_eq_false z]
            simp only [if_neg z, Bool.false_and]
            exact Ev.now _
    · have hj2 : ∀ b : Bool, b = decide (t.f0 = 4 ∨ t.f0 = 6) → ¬ (t.f0 = 2 ∨ t.f0 = 3 ∨ t.f0 = 5) → Ev (fun k => bellmanref10_Check.j2 k l false l (l.length : Int) (i : Int) b t.f0 t.f1 t.f2) (if (fineM t (decide (i + 1 < l.length)) text && rest) = true then 0 else 2) := by
        intro b hb2 hn
        have hfi : fineM t (decide (i + 1 < l.length)) text = (b && (sc_empty t.f1 && decide (t.f2.length = 0))) := by
          unfold fineM
          rw [if_neg c1, if_neg hn, hb2]
          by_cases d : t.f0 = 4 ∨ t.f0 = 6
          · rw [if_pos d, decide_eq_true d, Bool.true_and]
          · rw [if_neg d, decide_eq_false d, Bool.false_and]
        rw [hfi]
        cases b with
        | false => exact Ev.step (f := fun _ => some 2) (fun k => by rw [bellmanref10_Check.j2, if_neg (by decide), if_neg (by decide)]) (Ev.now _)
        | true =>
          rw [Bool.true_and]
          by_cases e : t.f1.toList = ([] : List UInt8)
          · rw [(empty_iff _).1 e, Bool.true_and]
            by_cases z : t.f2.length = 0
            · rw [decide_eq_true z, Bool.true_and]
              exact Ev.step (f := fun k => bellmanref10_Check.l0 k l l (l.length : Int) ((i + 1 : Nat) : Int)) (fun k => by rw [bellmanref10_Check.j2, if_pos rfl, if_pos e, if_pos (by omega), hw]) ih
            · rw [decide_eq_false z, Bool.false_and]
              exact Ev.step (f := fun _ => some 2) (fun k => by rw [bellmanref10_Check.j2, if_pos rfl, if_pos e, if_neg (by omega)]) (Ev.now _)
          · have : sc_empty t.f1 = false := by rw [← Bool.not_eq_true, ← empty_iff]; exact e
            rw [this]
            exact Ev.step (f := fun _ => some 2) (fun k => by rw [bellmanref10_Check.j2, if_pos rfl, if_neg e]) (Ev.now _)
      have hj1 : ∀ b : Bool, b = decide (t.f0 = 2 ∨ t.f0 = 3 ∨ t.f0 = 5) → Ev (fun k => bellmanref10_Check.j1 k l false l (l.length : Int) (i : Int) t.f0 b t.f0 t.f1 t.f2) (if (fineM t (decide (i + 1 < l.length)) text && rest) = true then 0 else 2) := by
        intro b hb1
        by_cases c : t.f0 = 2 ∨ t.f0 = 3 ∨ t.f0 = 5
        · rw [decide_eq_true c] at hb1
          subst hb1
          have hfi : fineM t (decide (i + 1 < l.length)) text = (sc_empty t.f1 && rtM t.f2) := by unfold fineM; rw [if_neg c1, if_pos c]
          rw [hfi]
          by_cases e : t.f1.toList = ([] : List UInt8)
          · rw [(empty_iff _).1 e, Bool.true_and]
            refine Ev.step (f := fun k => (bellmanref10_right.f k t.f2).bind fun t282 => if t282 = true then bellmanref10_Check.l0 k l l (l.length : Int) ((i + 1 : Nat) : Int) else some 2) (fun k => by rw [bellmanref10_Check.j1, if_pos rfl, if_pos e, hw]) ?_
            refine Ev.bind (rright_f htp.1 htp.2) (f := fun k t282 => if t282 = true then bellmanref10_Check.l0 k l l (l.length : Int) ((i + 1 : Nat) : Int) else some 2) ?_
            cases rtM t.f2 with
            | true => simp only [if_true, Bool.true_and]; exact ih
            | false => simp only [Bool.false_and, Bool.false_eq_true, if_false]; exact Ev.now _
          · have : sc_empty t.f1 = false := by rw [← Bool.not_eq_true, ← empty_iff]; exact e
            rw [this]
            exact Ev.step (f := fun _ => some 2) (fun k => by rw [bellmanref10_Check.j1, if_pos rfl, if_neg e]) (Ev.now _)
        · rw [decide_eq_false c] at hb1
          subst hb1
          by_cases d : t.f0 = 4
          · exact Ev.step (f := fun k => bellmanref10_Check.j2 k l false l (l.length : Int) (i : Int) true t.f0 t.f1 t.f2) (fun k => by
              rw [bellmanref10_Check.j1, if_neg (by decide), if_pos d]
              have : (t.f0 == 4) = true := by rw [d]; rfl
              rw [this]) (hj2 true (by simp [d]) c)
          · exact Ev.step (f := fun k => bellmanref10_Check.j2 k l false l (l.length : Int) (i : Int) (t.f0 == 6) t.f0 t.f1 t.f2) (fun k => by
              rw [bellmanref10_Check.j1, if_neg (by decide), if_neg d]) (hj2 _ (by rw [Bool.eq_iff_iff, beq_iff_eq, decide_eq_true_eq]; exact ⟨Or.inr, fun h => h.resolve_left d⟩) c)
      by_cases c2 : t.f0 = 2
      · exact Ev.step (f := fun k => bellmanref10_Check.j1 k l false l (l.length : Int) (i : Int) t.f0 true t.f0 t.f1 t.f2) (fun k => by
          rw [bellmanref10_Check.l0, if_pos (by omega), if_pos (by omega), if_pos (by omega), hrd, if_neg c1, if_pos c2]
          have : (t.f0 == 2) = true := by rw [c2]; rfl
          rw [this]) (hj1 true (by simp [c2]))
      · by_cases c3 : t.f0 = 3
        · exact Ev.step (f := fun k => bellmanref10_Check.j1 k l false l (l.length : Int) (i : Int) t.f0 true t.f0 t.f1 t.f2) (fun k => by
            rw [bellmanref10_Check.l0, if_pos (by omega), if_pos (by omega), if_pos (by omega), hrd, if_neg c1, if_neg c2, if_pos c3]
            have : (t.f0 == 3) = true := by rw [c3]; rfl
            rw [this]) (hj1 true (by simp [c3]))
        · exact Ev.step (f := fun k => bellmanref10_Check.j1 k l false l (l.length : Int) (i : Int) t.f0 (t.f0 == 5) t.f0 t.f1 t.f2) (fun k => by
            rw [bellmanref10_Check.l0, if_pos (by omega), if_pos (by omega), if_pos (by omega), hrd, if_neg c1, if_neg c2, if_neg c3]) (hj1 _ (by rw [Bool.eq_iff_iff, beq_iff_eq, decide_eq_true_eq]; exact ⟨fun h => Or.inr (Or.inr h), fun h => (h.resolve_left c2).resolve_left c3⟩))
theorem rCheck_f {l : List S40} (hl : l.length ≤ 1048576) (hs : ∀ t ∈ l, t.f1.size ≤ 1048576) (hp : ∀ t ∈ l, t.f2.length < 4611686018427387904 ∧ ∀ x ∈ t.f2, x.size < 4611686018427387904) : Ev (fun k => bellmanref10_Check.f k l) (if checkM l = true then 0 else 2) := by
  unfold bellmanref10_Check.f
  exact rcheck_loop l hl hs hp l.length 0 (by omega)
theorem rword_loop (l : List S40) (x4 : ByteArray) (i : Nat) (t : S40) (h1 : t.f0 ≠ 1) {a b : Bool} (hf : fineM t a b = true) (hb : (t.f2.map fun x => x.size + 1).sum ≤ 1048576) (hlen : t.f2.length ≤ 1048576) (hx : x4.size ≤ 140737488355328) (r : ByteArray × Int)
    (H : Ev (fun k => bellmanref10_Write.l0 k (x4 ++ sc_tok t) l (l.length : Int) (wrap64 ((i : Int) + 1))) r) : ∀ (d j : Nat), j + d = t.f2.length → Ev (fun k => bellmanref10_Write.l1 k x4 (wordM (t.f2.take j)) l (l.length : Int) (i : Int) t.f2 (t.f2.length : Int) (j : Int) t.f0 t.f1 t.f2) r
  | 0, j, h => by
    rw [List.take_of_length_le (by omega)]
    refine Ev.step (fun k => ?_) H
    have hs := wordM_size (l := t.f2)
    have z3 : (⟨#[105, 102, 32]⟩ : ByteArray).size = 3 := rfl
    have z5 : (⟨#[101, 97, 99, 104, 32]⟩ : ByteArray).size = 5 := rfl
    have z2 : (⟨#[123, 123]⟩ : ByteArray).size = 2 := rfl
    have y2 : (⟨#[125, 125]⟩ : ByteArray).size = 2 := rfl
    have z4 : (⟨#[101, 108, 115, 101]⟩ : ByteArray).size = 4 := rfl
    have y3 : (⟨#[101, 110, 100]⟩ : ByteArray).size = 3 := rfl
    rw [bellmanref10_Write.l1, if_neg (by omega), tag_text t h1 hf]
    by_cases c3 : t.f0 = 3
    · rw [if_pos c3, if_pos c3, if_pos (by omega), if_pos (by simp only [ByteArray.size_append]; omega), if_pos (by simp only [ByteArray.size_append]; omega), if_pos (by simp only [ByteArray.size_append]; omega)]
    · rw [if_neg c3, if_neg c3]
      by_cases c5 : t.f0 = 5
      · rw [if_pos c5, if_pos c5, if_pos (by omega), if_pos (by simp only [ByteArray.size_append]; omega), if_pos (by simp only [ByteArray.size_append]; omega), if_pos (by simp only [ByteArray.size_append]; omega)]
      · rw [if_neg c5, if_neg c5]
        by_cases c4 : t.f0 = 4
        · rw [if_pos c4, if_pos c4, if_pos (by omega), if_pos (by omega), if_pos (by simp only [ByteArray.size_append]; omega)]
        · rw [if_neg c4, if_neg c4]
          by_cases c6 : t.f0 = 6
          · rw [if_pos c6, if_pos c6, if_pos (by omega), if_pos (by omega), if_pos (by simp only [ByteArray.size_append]; omega)]
          · rw [if_neg c6, if_neg c6, if_pos (by omega), if_pos (by simp only [ByteArray.size_append]; omega), if_pos (by simp only [ByteArray.size_append]; omega)]
  | d + 1, j, h => by
    have hj : j < t.f2.length := by omega
    have ih := rword_loop l x4 i t h1 hf hb hlen hx r H d (j + 1) (by omega)
    have hs := wordM_size (l := t.f2.take j)
    have hs2 := wordM_size (l := t.f2.take (j + 1))
    have hm := wordM_mono (l := t.f2) j
    have hm2 := wordM_mono (l := t.f2) (j + 1)
    have hw := wordM_take hj
    have hrd : rdOf ByteArray.empty t.f2 (j : Int) = t.f2[j] := by unfold rdOf; rw [Int.toNat_natCast, List.getD_eq_getElem?_getD, List.getElem?_eq_getElem hj]; rfl
    have hone : (⟨#[46]⟩ : ByteArray).size = 1 := rfl
    refine Ev.step (fun k => ?_) ih
    rw [bellmanref10_Write.l1, if_pos (by omega), if_pos (by omega), if_pos (by omega), hrd, w_one (by omega)]
    by_cases z : j = 0
    · rw [if_pos z] at hw
      rw [if_neg (by omega), if_pos (by rw [← ByteArray.size_append, ← hw]; omega), ← hw]
    · rw [if_neg z] at hw
      rw [if_pos (by omega), if_pos (by omega), if_pos (by rw [← ByteArray.size_append, ← hw]; omega), ← hw]
theorem rwrite_loop (l : List S40) (hl : l.length ≤ 1048576) (hc : ∀ t ∈ l, ∃ a b, fineM t a b = true) (hb : ∀ t ∈ l, (t.f2.map fun x => x.size + 1).sum ≤ 1048576 ∧ t.f2.length ≤ 1048576) (hs : (sc_text l).length ≤ 140737488355328) : ∀ (d i : Nat), i + d = l.length → Ev (fun k => bellmanref10_Write.l0 k (ofL (sc_text (l.take i))) l (l.length : Int) (i : Int)) (if 1024 < (sc_text l).length then ((⟨#[]⟩ : ByteArray), 12) else (ofL (sc_text l), 0))
  | 0, i, h => by
    rw [List.take_of_length_le (by omega)]
    refine Ev.step (f := fun _ => some (if 1024 < (sc_text l).length then ((⟨#[]⟩ : ByteArray), 12) else (ofL (sc_text l), 0))) (fun k => ?_) (Ev.now _)
    rw [bellmanref10_Write.l0, if_neg (by omega), ofL_size]
    by_cases c : 1024 < (sc_text l).length
    · rw [if_pos (by omega), if_pos c]
    · rw [if_neg (by omega), if_neg c]
  | d + 1, i, h => by
    have hi : i < l.length := by omega
    have ih := rwrite_loop l hl hc hb hs d (i + 1) (by omega)
    have hrd := rd_tok hi
    have hsn : ofL (sc_text (l.take (i + 1))) = ofL (sc_text (l.take i)) ++ sc_tok l[i] := by
      rw [List.take_succ_eq_append_getElem hi, sc_text_snoc, ← ofL_append, ofL_data]
    have hle := sc_text_take l i
    have hle2 := sc_text_take l (i + 1)
    have hz : (ofL (sc_text (l.take (i + 1)))).size = (ofL (sc_text (l.take i))).size + (sc_tok l[i]).size := by rw [hsn, ByteArray.size_append]
    rw [ofL_size, ofL_size] at hz
    rw [hsn] at ih
    obtain ⟨a, b, hf⟩ := hc _ (List.getElem_mem hi)
    have hbt := hb _ (List.getElem_mem hi)
    generalize l[i] = t at hrd ih hf hbt hz
    have hx : (ofL (sc_text (l.take i))).size ≤ 140737488355328 := by rw [ofL_size]; omega
    have hz2 : (ofL (sc_text (l.take i))).size + (sc_tok t).size ≤ 140737488355328 := by rw [ofL_size]; omega
    by_cases c1 : t.f0 = 1
    · rw [sc_tok_text c1] at ih hz2
      refine Ev.step (fun k => ?_) ih
      rw [bellmanref10_Write.l0, if_pos (by omega), if_pos (by omega), if_pos (by omega), hrd, if_pos c1, if_pos (by omega), w_one (by omega)]
    · have hwd := rword_loop l (ofL (sc_text (l.take i))) i t c1 hf hbt.1 hbt.2 hx _ (by rw [w_one (by omega)]; exact ih) t.f2.length 0 (by omega)
      refine Ev.step (fun k => ?_) hwd
      rw [bellmanref10_Write.l0, if_pos (by omega), if_pos (by omega), if_pos (by omega), hrd, if_neg c1]
      rfl
theorem rWrite_f {l : List S40} (hl : l.length ≤ 1048576) (hs : ∀ t ∈ l, t.f1.size ≤ 1048576) (hp : ∀ t ∈ l, t.f2.length < 4611686018427387904 ∧ ∀ x ∈ t.f2, x.size < 4611686018427387904) (hb : ∀ t ∈ l, (t.f2.map fun x => x.size + 1).sum ≤ 1048576 ∧ t.f2.length ≤ 1048576) (hz : (sc_text l).length ≤ 140737488355328) : Ev (fun k => bellmanref10_Write.f k l) (writeM l) := by
  unfold bellmanref10_Write.f writeM
  refine Ev.bind (rCheck_f hl hs hp) (f := fun k t283 => if t283 = 0 then bellmanref10_Write.l0 k (⟨#[]⟩ : ByteArray) l (l.length : Int) 0 else some ((⟨#[]⟩ : ByteArray), 2)) ?_
  by_cases c : checkM l = true
  · simp only [if_pos c, if_true]
    exact rwrite_loop l hl (check_all c) hb hz l.length 0 (by omega)
  · simp only [if_neg c]
    exact Ev.now _

end Go.Proofs.YtcblmfcgjemgkaaDoor.XS
