-- by a program of this session
import Derived.Test.YtcblmfcgjemgkaaDoorXS0
import Derived.Lib.SplitLaws
import Derived.Lib.IndexMore
import Derived.Test.YtcblmfcgjemgkaaDoorXS4
import Derived.Test.YtcblmfcgjemgkaaDoorXS3
import Derived.Test.YtcblmfcgjemgkaaDoorXS1
set_option linter.unusedVariables false
set_option linter.unusedSimpArgs false
/-! Templates' tokens, in plain lists: what both the program and the document's definition come to. -/
namespace Go.Proofs.YtcblmfcgjemgkaaDoor.XS
open Go.RowKit Go.Proofs.YtcblmfcgjemgkaaDoorW.PrintWords Go.Proofs.YtcblmfcgjemgkaaDoorW.PrintLast Go.Proofs.YtcblmfcgjemgkaaDoorW.PrintMore
/-- A text of bytes. -/
def ofL (l : List UInt8) : ByteArray := ⟨l.toArray⟩
theorem ofL_data (s : ByteArray) : ofL s.data.toList = s := by cases s; simp [ofL]
theorem ofL_toL (l : List UInt8) : (ofL l).data.toList = l := by simp [ofL]
theorem ofL_size (l : List UInt8) : (ofL l).size = l.length := by simp [ofL, ByteArray.size]
theorem size_toL (s : ByteArray) : s.size = s.data.toList.length := Array.length_toList.symm
/-- Where two of a byte first stand. -/
def fnd (c : UInt8) : List UInt8 → Option Nat
  | [] => none
  | [_] => none
  | x :: y :: l => if x = c ∧ y = c then some 0 else (fnd c (y :: l)).map (· + 1)
theorem index_two (c : UInt8) : ∀ l : List UInt8, Lib.index l [c, c] = match fnd c l with | none => -1 | some i => (i : Int)
  | [] => rfl
  | [x] => by
    rw [Lib.index, if_neg (by simp [List.isPrefixOf])]
    rfl
  | x :: y :: l => by
    have ih := index_two c (y :: l)
    rw [Lib.index, fnd, ih]
    by_cases h : x = c ∧ y = c
    · rw [if_pos h, if_pos (by simp [List.isPrefixOf, h.1, h.2])]
      rfl
    · rw [if_neg h, if_neg (by
        simp only [List.isPrefixOf, Bool.and_true, Bool.and_eq_true, beq_iff_eq]
        intro e
        exact h ⟨e.1.symm, e.2.symm⟩)]
      cases fnd c (y :: l) with
      | none => rfl
      | some i =>
        simp only [Option.map_some]
        rw [if_neg (by rw [beq_iff_eq]; omega)]
        rfl
theorem fnd_le {c : UInt8} : ∀ {l : List UInt8} {i : Nat}, fnd c l = some i → i + 2 ≤ l.length
  | [], _, h => by cases h
  | [_], _, h => by cases h
  | x :: y :: l, i, h => by
    rw [fnd] at h
    split at h
    · cases h; simp
    · obtain ⟨j, hj, rfl⟩ := Option.map_eq_some_iff.mp h
      have := fnd_le hj
      simp only [List.length_cons] at this ⊢
      omega
theorem cut_two (c : UInt8) (l : List UInt8) : Lib.cut l [c, c] = match fnd c l with | none => (l, [], false) | some i => (l.take i, l.drop (i + 2), true) := by
  unfold Lib.cut
  rw [index_two]
  cases fnd c l with
  | none => simp
  | some i =>
    simp only
    rw [if_pos (by omega)]
    simp
/-- A text's pieces, between single bytes. -/
def spl (c : UInt8) : List UInt8 → List (List UInt8)
  | [] => [[]]
  | x :: l => if x = c then [] :: spl c l else match spl c l with | [] => [[x]] | p :: r => (x :: p) :: r
theorem spl_ne (c : UInt8) (l : List UInt8) : spl c l ≠ [] := by
  cases l with
  | nil => simp [spl]
  | cons x l =>
    rw [spl]
    split
    · simp
    · split <;> simp
theorem index_one (c : UInt8) : ∀ l : List UInt8, Lib.index l [c] = if c ∈ l then ((l.takeWhile (· != c)).length : Int) else -1
  | [] => by simp [Lib.index]
  | x :: l => by
    rw [Lib.index, index_one c l]
    by_cases h : c = x
    · subst h
      rw [if_pos (by simp [List.isPrefixOf])]
      simp
    · rw [if_neg (by simp [List.isPrefixOf, h])]
      by_cases h2 : c ∈ l
      · rw [if_pos h2, if_pos (List.mem_cons_of_mem _ h2), if_neg (by rw [beq_iff_eq]; omega)]
        have hx : (x != c) = true := bne_iff_ne.mpr (fun e => h e.symm)
        rw [List.takeWhile_cons, if_pos hx]
        simp
      · rw [if_neg h2, if_neg (fun e => (List.mem_cons.mp e).elim h h2), if_pos (by decide)]
theorem spl_none {c : UInt8} : ∀ {l : List UInt8}, c ∉ l → spl c l = [l]
  | [], _ => rfl
  | x :: l, h => by
    have h1 : x ≠ c := fun e => h (e ▸ List.mem_cons_self ..)
    rw [spl, if_neg h1, spl_none (fun e => h (List.mem_cons_of_mem _ e))]
theorem spl_some {c : UInt8} : ∀ {l : List UInt8}, c ∈ l → spl c l = l.takeWhile (· != c) :: spl c (l.drop ((l.takeWhile (· != c)).length + 1))
  | [], h => by cases h
  | x :: l, h => by
    by_cases h1 : x = c
    · subst h1
      rw [spl, if_pos rfl]
      simp
    · have hx : (x != c) = true := bne_iff_ne.mpr h1
      have h2 : c ∈ l := (List.mem_cons.mp h).resolve_left (fun e => h1 e.symm)
      rw [spl, if_neg h1, spl_some h2, List.takeWhile_cons, if_pos hx]
      simp
theorem splitK_spl (c : UInt8) : ∀ (k : Nat) (l : List UInt8), l.count c = k → Lib.splitK [c] 0 k l = spl c l
  | 0, l, h => by
    rw [Lib.splitK, spl_none (List.count_eq_zero.mp h)]
  | k + 1, l, h => by
    have hm : c ∈ l := by
      rw [← List.count_pos_iff]
      omega
    rw [Lib.splitK, index_one, if_pos hm, if_neg (by rw [beq_iff_eq]; omega), Int.toNat_natCast, Nat.add_zero, spl_some hm]
    have hsplit : l = l.takeWhile (· != c) ++ c :: l.drop ((l.takeWhile (· != c)).length + 1) := by
      clear h
      induction l with
      | nil => cases hm
      | cons x l ih =>
        by_cases h1 : x = c
        · subst h1; simp
        · have hx : (x != c) = true := bne_iff_ne.mpr h1
          have h2 : c ∈ l := (List.mem_cons.mp hm).resolve_left (fun e => h1 e.symm)
          rw [List.takeWhile_cons, if_pos hx]
          simp only [List.length_cons, List.drop_succ_cons, List.cons_append]
          rw [← ih h2]
    have hc : (l.drop ((l.takeWhile (· != c)).length + 1)).count c = k := by
      have h0 : (l.takeWhile (· != c)).count c = 0 := by
        rw [List.count_eq_zero]
        intro e
        have := List.all_eq_true.mp List.all_takeWhile c e
        simp at this
      have h1 := congrArg (List.count c) hsplit
      rw [List.count_append, h0, List.count_cons_self] at h1
      omega
    have ht : l.take (l.takeWhile (· != c)).length = l.takeWhile (· != c) := by
      have h := List.take_left (l₁ := l.takeWhile (· != c)) (l₂ := c :: l.drop ((l.takeWhile (· != c)).length + 1))
      rwa [← hsplit] at h
    rw [ht]
    congr 1
    exact splitK_spl c k _ hc
theorem split_spl (c : UInt8) (l : List UInt8) : Lib.splitK [c] 0 (Lib.count l [c]) l = spl c l := splitK_spl c _ l (Lib.count_one c l).symm
end Go.Proofs.YtcblmfcgjemgkaaDoor.XS
/-! The program's tokens: what it comes to. -/
namespace Go.Proofs.YtcblmfcgjemgkaaDoor.XS
open Go.RowKit Go.Proofs.YtcblmfcgjemgkaaDoorW.PrintWords Go.Proofs.YtcblmfcgjemgkaaDoorW.PrintLast Go.Proofs.YtcblmfcgjemgkaaDoorW.PrintMore
theorem toList_data (s : ByteArray) : s.toList = s.data.toList := ByteArray.toList_eq s
/-- A text's pieces. -/
def splB (c : UInt8) (s : ByteArray) : List ByteArray := (spl c s.data.toList).map ofL
theorem map_ofL (l : List ByteArray) : (l.map (·.data.toList)).map ofL = l := by
  rw [List.map_map]
  conv => rhs; rw [← List.map_id l]
  exact List.map_congr_left (fun x _ => ofL_data x)
theorem Split_f {s : ByteArray} (h : s.size < 4294967281) (c : UInt8) : strings_Split.f s (⟨#[c]⟩ : ByteArray) = some (splB c s) := by
  unfold strings_Split.f
  rw [if_pos ⟨h, Nat.le_refl _⟩, ← map_ofL (Lib.splitB _ _ _ _), Lib.splitB_data]
  unfold splB
  rw [← split_spl]
theorem splB_length (c : UInt8) (s : ByteArray) : 0 < (splB c s).length := by
  unfold splB
  rw [List.length_map]
  exact List.length_pos_iff.mpr (spl_ne c _)
theorem spl_bound (c : UInt8) : ∀ l : List UInt8, (spl c l).length ≤ l.length + 1 ∧ ∀ p ∈ spl c l, p.length ≤ l.length
  | [] => by simp [spl]
  | x :: l => by
    have ⟨h1, h2⟩ := spl_bound c l
    rw [spl]
    split
    · refine ⟨by simp only [List.length_cons]; omega, fun p hp => ?_⟩
      rcases List.mem_cons.mp hp with rfl | hp
      · simp
      · have := h2 p hp; simp only [List.length_cons]; omega
    · split
      · refine ⟨by simp, fun p hp => ?_⟩
        rw [List.mem_singleton] at hp
        subst hp; simp
      · rename_i p r he
        rw [he] at h1 h2
        refine ⟨by simp only [List.length_cons] at h1 ⊢; omega, fun q hq => ?_⟩
        rcases List.mem_cons.mp hq with rfl | hq
        · have := h2 p (List.mem_cons_self ..); simp only [List.length_cons]; omega
        · have := h2 q (List.mem_cons_of_mem _ hq); simp only [List.length_cons]; omega
/-- The kind that a word of the language is. -/
def ownM (s : ByteArray) : Int := if s.data.toList = [105, 102] then 3 else if s.data.toList = [101, 108, 115, 101] then 4 else if s.data.toList = [101, 97, 99, 104] then 5 else if s.data.toList = [101, 110, 100] then 6 else 2
theorem own_f (s : ByteArray) : Ev (fun k => scan_own.f k s) (ownM s) := by
  unfold scan_own.f
  have h : ∀ k i : Int, ∀ t : ByteArray, scan_words.f i = some t → i < 7 → ∀ n, scan_own.l0 (n + 1) s i = if t.data.toList = s.data.toList then some i else scan_own.l0 n s ((i + 1) % 256) := by
    intro _ i t h1 h2 n
    rw [scan_own.l0, if_pos h2, h1, Option.bind_some, toList_data, toList_data]
  have w3 : scan_words.f 3 = some (⟨#[105, 102]⟩ : ByteArray) := rfl
  have w4 : scan_words.f 4 = some (⟨#[101, 108, 115, 101]⟩ : ByteArray) := rfl
  have w5 : scan_words.f 5 = some (⟨#[101, 97, 99, 104]⟩ : ByteArray) := rfl
  have w6 : scan_words.f 6 = some (⟨#[101, 110, 100]⟩ : ByteArray) := rfl
  have e7 : ∀ n, scan_own.l0 (n + 1) s 7 = some 2 := fun n => by rw [scan_own.l0, if_neg (by decide)]
  unfold ownM
  by_cases a : s.data.toList = [105, 102]
  · rw [if_pos a]
    exact Ev.step (f := fun _ => some 3) (fun n => by rw [h 0 3 _ w3 (by decide), if_pos a.symm]) (Ev.now _)
  · rw [if_neg a]
    refine Ev.step (f := fun n => scan_own.l0 n s 4) (fun n => by rw [h 0 3 _ w3 (by decide), if_neg (fun e => a e.symm)]; rfl) ?_
    by_cases b : s.data.toList = [101, 108, 115, 101]
    · rw [if_pos b]
      exact Ev.step (f := fun _ => some 4) (fun n => by rw [h 0 4 _ w4 (by decide), if_pos b.symm]) (Ev.now _)
    · rw [if_neg b]
      refine Ev.step (f := fun n => scan_own.l0 n s 5) (fun n => by rw [h 0 4 _ w4 (by decide), if_neg (fun e => b e.symm)]; rfl) ?_
      by_cases c : s.data.toList = [101, 97, 99, 104]
      · rw [if_pos c]
        exact Ev.step (f := fun _ => some 5) (fun n => by rw [h 0 5 _ w5 (by decide), if_pos c.symm]) (Ev.now _)
      · rw [if_neg c]
        refine Ev.step (f := fun n => scan_own.l0 n s 6) (fun n => by rw [h 0 5 _ w5 (by decide), if_neg (fun e => c e.symm)]; rfl) ?_
        by_cases d : s.data.toList = [101, 110, 100]
        · rw [if_pos d]
          exact Ev.step (f := fun _ => some 6) (fun n => by rw [h 0 6 _ w6 (by decide), if_pos d.symm]) (Ev.now _)
        · rw [if_neg d]
          exact Ev.step (f := fun n => scan_own.l0 n s 7) (fun n => by rw [h 0 6 _ w6 (by decide), if_neg (fun e => d e.symm)]; rfl) (Ev.step (f := fun _ => some 2) e7 (Ev.now _))
/-- Names that are a path's word's. -/
def rtM (l : List ByteArray) : Bool := decide (1 ≤ l.length) && (decide (l.length ≤ 4) && ((decide (l.length ≠ 1) || decide (ownM (l.getD 0 ByteArray.empty) = 2)) && l.all nm))
theorem any_not (l : List ByteArray) : (!(l.any fun s => !nm s)) = l.all nm := by
  induction l with
  | nil => rfl
  | cons x l ih => rw [List.any_cons, List.all_cons, Bool.not_or, Bool.not_not, ih]
theorem right_f (l : List ByteArray) : Ev (fun k => scan_right.f k l) (rtM l) := by
  unfold scan_right.f slices_ContainsFunc_string_string.f rtM
  simp only [Option.bind_some, any_not]
  by_cases a : (l.length : Int) < 1
  · simp only [if_pos a]
    rw [decide_eq_false (show ¬ 1 ≤ l.length by omega)]
    exact Ev.now _
  · simp only [if_neg a]
    rw [decide_eq_true (show 1 ≤ l.length by omega), Bool.true_and]
    by_cases b : (l.length : Int) > 4
    · simp only [if_pos b]
      rw [decide_eq_false (show ¬ l.length ≤ 4 by omega)]
      exact Ev.now _
    · simp only [if_neg b]
      rw [decide_eq_true (show l.length ≤ 4 by omega), Bool.true_and]
      by_cases c : (l.length : Int) = 1
      · simp only [if_pos c, if_pos (show (0 : Int) < l.length by omega)]
        rw [decide_eq_false (show ¬ (l.length ≠ 1) by omega), Bool.false_or]
        refine Ev.bind (own_f _) (f := fun _ t => if t = 2 then some (l.all nm) else some false) ?_
        have e : rdOf ByteArray.empty l 0 = l.getD 0 ByteArray.empty := rfl
        rw [e]
        by_cases d : ownM (l.getD 0 ByteArray.empty) = 2
        · rw [if_pos d, decide_eq_true d, Bool.true_and]; exact Ev.now _
        · rw [if_neg d, decide_eq_false d, Bool.false_and]; exact Ev.now _
      · simp only [if_neg c]
        rw [decide_eq_true (show l.length ≠ 1 by omega), Bool.true_or, Bool.true_and]
        exact Ev.now _
/-- A word's names. -/
def pthM (s : ByteArray) : List ByteArray × Int := if rtM (splB 46 s) = true then (splB 46 s, 0) else ([], 13)
theorem Path_f {s : ByteArray} (h : s.size < 4294967281) : Ev (fun k => scan_Path.f k s) (pthM s) := by
  unfold scan_Path.f pthM
  rw [Split_f h]
  simp only [Option.bind_some]
  refine Ev.bind (right_f _) (f := fun _ t => if t = true then some (splB 46 s, 0) else some (([] : List ByteArray), 13)) ?_
  cases rtM (splB 46 s) with
  | true => exact Ev.now _
  | false => exact Ev.now _
/-- What stands within a tag. -/
def tagM (s : ByteArray) : Option S40 :=
  match (splB 32 s).filter (fun x => !sc_empty x) with
  | [a] => if ownM a = 4 ∨ ownM a = 6 then some ⟨ownM a, (⟨#[]⟩ : ByteArray), []⟩ else if ownM a = 2 then (if (pthM a).2 = 0 then some ⟨2, (⟨#[]⟩ : ByteArray), (pthM a).1⟩ else none) else none
  | [a, b] => if ownM a = 3 ∨ ownM a = 5 then (if (pthM b).2 = 0 then some ⟨ownM a, (⟨#[]⟩ : ByteArray), (pthM b).1⟩ else none) else none
  | _ => none
def tagR (o : Option S40) : Int × ByteArray × List ByteArray × Int := match o with | none => (0, (⟨#[]⟩ : ByteArray), [], 7) | some t => (t.f0, t.f1, t.f2, 0)
theorem own_cases (s : ByteArray) : ownM s = 2 ∨ ownM s = 3 ∨ ownM s = 4 ∨ ownM s = 5 ∨ ownM s = 6 := by
  unfold ownM
  repeat' split
  all_goals simp
theorem piece_size {c : UInt8} {s x : ByteArray} (h : x ∈ splB c s) : x.size ≤ s.size := by
  unfold splB at h
  obtain ⟨p, hp, rfl⟩ := List.mem_map.mp h
  rw [ofL_size, size_toL]
  exact (spl_bound c _).2 p hp
theorem tag_j3 {s b : ByteArray} {l : List ByteArray} {o : Int} (hs : b.size < 4294967281) (hl : 0 < l.length) (hm : l.length ≤ 2) (hb : l.getD (l.length - 1) ByteArray.empty = b) :
    Ev (fun k => scan_tag.j3 k l o false) (tagR (if (pthM b).2 = 0 then some ⟨o, (⟨#[]⟩ : ByteArray), (pthM b).1⟩ else none)) := by
  have hw : wrap64 ((l.length : Int) - 1) = ((l.length - 1 : Nat) : Int) := by unfold wrap64; omega
  refine Ev.step (fun k => ?_) (Ev.bind (Path_f hs) (f := fun _ bt120 => if bt120.2 = 0 then some (o, (⟨#[]⟩ : ByteArray), bt120.1, (0 : Int)) else some (0, (⟨#[]⟩ : ByteArray), ([] : List ByteArray), 7)) ?_)
  · rw [scan_tag.j3, if_neg (by decide), hw, if_pos (by omega), if_pos (by omega)]
    have e : rdOf ByteArray.empty l ((l.length - 1 : Nat) : Int) = b := by unfold rdOf; rw [Int.toNat_natCast]; exact hb
    rw [e]
  · by_cases c : (pthM b).2 = 0
    · rw [if_pos c, if_pos c]; exact Ev.now _
    · rw [if_neg c, if_neg c]; exact Ev.now _
theorem tag_no (l : List ByteArray) (o : Int) : Ev (fun k => scan_tag.j3 k l o true) (tagR none) := Ev.step (f := fun _ => some (tagR none)) (fun k => by rw [scan_tag.j3, if_pos rfl]; rfl) (Ev.now _)
theorem tag_f {s : ByteArray} (h : s.size < 4294967281) : Ev (fun k => scan_tag.f k s) (tagR (tagM s)) := by
  unfold scan_tag.f tagM
  rw [Split_f h]
  unfold slices_DeleteFunc_string_string.f
  simp only [Option.bind_some, if_pos (splB_length 32 s)]
  have hsub : ∀ x ∈ (splB 32 s).filter (fun x => !sc_empty x), x.size < 4294967281 := fun x hx => by have := piece_size (List.mem_filter.mp hx).1; omega
  generalize (splB 32 s).filter (fun x => !sc_empty x) = l at hsub ⊢
  have no0 : Ev (fun k => scan_tag.j0 k l true) (tagR none) := Ev.step (f := fun _ => some (tagR none)) (fun k => by rw [scan_tag.j0, if_pos rfl]; rfl) (Ev.now _)
  match l, hsub, no0 with
  | [], _, no0 => exact no0
  | [a], hsub, _ =>
    simp only [List.length_cons, List.length_nil]
    have ha := hsub a (List.mem_singleton_self _)
    have h1 : ∀ b, scan_own.f = scan_own.f → b = ownM a → Ev (fun k => scan_tag.j1 k [a] b (decide (b = 4 ∨ b = 6))) (tagR (if b = 4 ∨ b = 6 then some ⟨b, (⟨#[]⟩ : ByteArray), []⟩ else if b = 2 then (if (pthM a).2 = 0 then some ⟨2, (⟨#[]⟩ : ByteArray), (pthM a).1⟩ else none) else none)) := by
      intro b _ hb
      by_cases c : b = 4 ∨ b = 6
      · rw [if_pos c, decide_eq_true c]
        exact Ev.step (f := fun _ => some (b, (⟨#[]⟩ : ByteArray), ([] : List ByteArray), (0 : Int))) (fun k => by rw [scan_tag.j1, if_pos rfl, if_pos (by rfl)]) (Ev.now _)
      · rw [if_neg c, decide_eq_false c]
        by_cases d : b = 2
        · rw [if_pos d]
          refine Ev.step (f := fun k => scan_tag.j2 k [a] b false) (fun k => by rw [scan_tag.j1, if_neg (by decide), if_pos d]) ?_
          refine Ev.step (f := fun k => scan_tag.j3 k [a] b false) (fun k => by rw [scan_tag.j2, if_neg (by decide), if_pos d]; rfl) ?_
          have := tag_j3 (s := s) (b := a) (l := [a]) (o := b) ha (by simp) (by simp) rfl
          rw [d] at this ⊢
          exact this
        · rw [if_neg d]
          refine Ev.step (f := fun k => scan_tag.j2 k [a] b true) (fun k => by rw [scan_tag.j1, if_neg (by decide), if_neg d]; rfl) ?_
          exact Ev.step (f := fun k => scan_tag.j3 k [a] b true) (fun k => by rw [scan_tag.j2, if_pos rfl]) (tag_no _ _)
    refine Ev.step (f := fun k => (scan_own.f k a).bind fun t118 => if t118 = 4 then scan_tag.j1 k [a] t118 true else scan_tag.j1 k [a] t118 (t118 == 6)) (fun k => by simp [scan_tag.j0, rdOf]) ?_
    refine Ev.bind (own_f a) (f := fun k t118 => if t118 = 4 then scan_tag.j1 k [a] t118 true else scan_tag.j1 k [a] t118 (t118 == 6)) ?_
    have h2 := h1 (ownM a) rfl rfl
    by_cases c : ownM a = 4
    · simp only [if_pos c]
      rwa [decide_eq_true (Or.inl c)] at h2
    · simp only [if_neg c]
      have e : (ownM a == 6) = decide (ownM a = 4 ∨ ownM a = 6) := by
        rw [Bool.eq_iff_iff, beq_iff_eq, decide_eq_true_eq]
        simp [c]
      rw [e]
      exact h2
  | [a, b], hsub, _ =>
    simp only [List.length_cons, List.length_nil]
    have hb := hsub b (by simp)
    refine Ev.step (f := fun k => (scan_own.f k a).bind fun t118 => if t118 = 4 then scan_tag.j1 k [a, b] t118 true else scan_tag.j1 k [a, b] t118 (t118 == 6)) (fun k => by simp [scan_tag.j0, rdOf]) ?_
    refine Ev.bind (own_f a) (f := fun k t118 => if t118 = 4 then scan_tag.j1 k [a, b] t118 true else scan_tag.j1 k [a, b] t118 (t118 == 6)) ?_
    have jt : ∀ o, Ev (fun k => scan_tag.j1 k [a, b] o true) (tagR none) := fun o => Ev.step (f := fun _ => some (tagR none)) (fun k => by rw [scan_tag.j1, if_pos rfl, if_neg (by simp)]; rfl) (Ev.now _)
    rcases own_cases a with o | o | o | o | o <;> rw [o]
    · refine Ev.step (f := fun k => scan_tag.j2 k [a, b] 2 false) (fun k => by rw [if_neg (by decide), show ((2 : Int) == 6) = false from rfl, scan_tag.j1, if_neg (by decide), if_pos rfl]) ?_
      exact Ev.step (f := fun k => scan_tag.j3 k [a, b] 2 true) (fun k => by rw [scan_tag.j2, if_neg (by decide), if_pos rfl]; rfl) (tag_no _ _)
    · refine Ev.step (f := fun k => scan_tag.j2 k [a, b] 3 false) (fun k => by rw [if_neg (by decide), show ((3 : Int) == 6) = false from rfl, scan_tag.j1, if_neg (by decide), if_neg (by decide)]; rfl) ?_
      refine Ev.step (f := fun k => scan_tag.j3 k [a, b] 3 false) (fun k => by rw [scan_tag.j2, if_neg (by decide), if_neg (by decide)]) ?_
      exact tag_j3 (s := s) (b := b) (l := [a, b]) (o := 3) hb (by simp) (by simp) rfl
    · exact jt 4
    · refine Ev.step (f := fun k => scan_tag.j2 k [a, b] 5 false) (fun k => by rw [if_neg (by decide), show ((5 : Int) == 6) = false from rfl, scan_tag.j1, if_neg (by decide), if_neg (by decide)]; rfl) ?_
      refine Ev.step (f := fun k => scan_tag.j3 k [a, b] 5 false) (fun k => by rw [scan_tag.j2, if_neg (by decide), if_neg (by decide)]) ?_
      exact tag_j3 (s := s) (b := b) (l := [a, b]) (o := 5) hb (by simp) (by simp) rfl
    · exact jt 6
  | a :: b :: c :: r, hsub, no0 =>
    have e1 : ¬ (((a :: b :: c :: r).length : Int) = 0) := by simp only [List.length_cons]; omega
    have e2 : decide (((a :: b :: c :: r).length : Int) > 2) = true := decide_eq_true (by simp only [List.length_cons]; omega)
    simp only [if_neg e1, e2]
    exact no0
/-- A text's token. -/
def txt (l : List UInt8) : S40 := ⟨1, ofL l, []⟩
/-- A text's tokens, behind those that are had. -/
def tkM : Nat → List UInt8 → List S40 → List S40 × Int
  | 0, _, out => (out, 0)
  | n + 1, s, out => if s = [] then (out, 0) else
    match fnd 123 s with
    | none => (out ++ [txt s], 0)
    | some i =>
      match fnd 125 (s.drop (i + 2)) with
      | none => ([], 7)
      | some j =>
        match tagM (ofL ((s.drop (i + 2)).take j)) with
        | none => ([], 7)
        | some t => tkM n ((s.drop (i + 2)).drop (j + 2)) ((if i = 0 then out else out ++ [txt (s.take i)]) ++ [t])
def tokensM (s : ByteArray) : List S40 × Int := if 1024 < s.size then ([], 12) else tkM (s.size + 1) s.data.toList []
theorem cut_f (c : UInt8) {l : List UInt8} (h : l.length < 4294967281) : strings_Cut.f (ofL l) (⟨#[c, c]⟩ : ByteArray) = some (match fnd c l with | none => (ofL l, ofL [], false) | some i => (ofL (l.take i), ofL (l.drop (i + 2)), true)) := by
  unfold strings_Cut.f
  rw [if_pos (by rw [ofL_size]; exact h), ofL_toL]
  have e : (⟨#[c, c]⟩ : ByteArray).data.toList = [c, c] := rfl
  rw [e, cut_two]
  cases fnd c l <;> rfl
theorem ofL_nil (l : List UInt8) : (ofL l).toList = ([] : List UInt8) ↔ l = [] := by rw [toList_data, ofL_toL]
theorem tok_f : ∀ (n : Nat) (s : List UInt8) (out : List S40), s.length ≤ n → s.length ≤ 1024 → out.length + 2 * s.length ≤ 4096 → Ev (fun k => scan_Tokens.l0 k (ofL s) out) (tkM (n + 1) s out)
  | n, s, out, h1, h2, h3 => by
    rw [tkM]
    by_cases a : s = []
    · rw [if_pos a]
      exact Ev.step (f := fun _ => some (out, 0)) (fun k => by rw [scan_Tokens.l0, if_pos ((ofL_nil s).2 a)]) (Ev.now _)
    · rw [if_neg a]
      have hl : 0 < s.length := List.length_pos_iff.mpr a
      have hc := cut_f 123 (l := s) (by omega)
      have hst : ∀ k, scan_Tokens.l0 (k + 1) (ofL s) out = (strings_Cut.f (ofL s) (⟨#[123, 123]⟩ : ByteArray)).bind fun bt126 => (if bt126.1.toList = ([] : List UInt8) then scan_Tokens.j1 k out bt126.2.1 bt126.2.2 else if out.length < 2932031007402 then scan_Tokens.j1 k (out ++ [⟨1, bt126.1, []⟩]) bt126.2.1 bt126.2.2 else none) := fun k => by
        rw [scan_Tokens.l0, if_neg (fun e => a ((ofL_nil s).1 e))]
      cases hf : fnd 123 s with
      | none =>
        rw [hf] at hc
        simp only at hc ⊢
        refine Ev.step (f := fun k => scan_Tokens.j1 k (out ++ [txt s]) (ofL []) false) (fun k => ?_) ?_
        · rw [hst, hc, Option.bind_some]
          simp only
          rw [if_neg (fun e => a ((ofL_nil s).1 e)), if_pos (by omega)]
          rfl
        · exact Ev.step (f := fun _ => some (out ++ [txt s], 0)) (fun k => by rw [scan_Tokens.j1, if_neg (by decide)]) (Ev.now _)
      | some i =>
        rw [hf] at hc
        simp only at hc ⊢
        have hi := fnd_le hf
        have hout : (if i = 0 then out else out ++ [txt (s.take i)]).length ≤ out.length + 1 := by split <;> simp
        refine Ev.step (f := fun k => scan_Tokens.j1 k (if i = 0 then out else out ++ [txt (s.take i)]) (ofL (s.drop (i + 2))) true) (fun k => ?_) ?_
        · rw [hst, hc, Option.bind_some]
          simp only
          by_cases b : i = 0
          · subst b
            rw [if_pos ((ofL_nil _).2 (by simp)), if_pos rfl]
          · have hne : s.take i ≠ [] := by
              intro e
              have := congrArg List.length e
              rw [List.length_take] at this
              simp only [List.length_nil] at this
              omega
            rw [if_neg (fun e => hne ((ofL_nil _).1 e)), if_pos (by omega), if_neg b]
            rfl
        · generalize (if i = 0 then out else out ++ [txt (s.take i)]) = o2 at hout ⊢
          have hd : (s.drop (i + 2)).length = s.length - (i + 2) := List.length_drop
          generalize s.drop (i + 2) = u at hd ⊢
          have hc2 := cut_f 125 (l := u) (by omega)
          cases hg : fnd 125 u with
          | none =>
            rw [hg] at hc2
            simp only at hc2 ⊢
            refine Ev.step (f := fun _ => some (([] : List S40), (7 : Int))) (fun k => ?_) (Ev.now _)
            rw [scan_Tokens.j1, if_pos rfl, hc2, Option.bind_some]
            simp only
            rw [if_neg (by decide)]
          | some j =>
            rw [hg] at hc2
            simp only at hc2 ⊢
            have hj := fnd_le hg
            have ht := tag_f (s := ofL (u.take j)) (by rw [ofL_size, List.length_take]; omega)
            refine Ev.step (fun k => by rw [scan_Tokens.j1, if_pos rfl, hc2, Option.bind_some, if_pos rfl]) (Ev.bind ht (f := fun k bt135 => if bt135.2.2.2 = 0 then (if o2.length < 2932031007402 then scan_Tokens.l0 k (ofL (u.drop (j + 2))) (o2 ++ [⟨bt135.1, bt135.2.1, bt135.2.2.1⟩]) else none) else some (([] : List S40), bt135.2.2.2)) ?_)
            cases tagM (ofL (u.take j)) with
            | none =>
              simp only [tagR]
              exact Ev.now _
            | some t =>
              simp only [tagR, if_true, if_pos (show o2.length < 2932031007402 by omega)]
              have hn : ∃ m, n = m + 1 := ⟨n - 1, by omega⟩
              obtain ⟨m, rfl⟩ := hn
              have hd2 : (u.drop (j + 2)).length = u.length - (j + 2) := List.length_drop
              exact tok_f m (u.drop (j + 2)) (o2 ++ [t]) (by omega) (by omega) (by simp only [List.length_append, List.length_cons, List.length_nil]; omega)
theorem Tokens_f (s : ByteArray) : Ev (fun k => scan_Tokens.f k s) (tokensM s) := by
  unfold scan_Tokens.f tokensM
  by_cases c : 1024 < s.size
  · simp only [if_pos (show (s.size : Int) > 1024 by omega), if_pos c]
    exact Ev.now _
  · simp only [if_neg (show ¬ (s.size : Int) > 1024 by omega), if_neg c]
    have h := tok_f s.size s.data.toList [] (by rw [size_toL]; exact Nat.le_refl _) (by rw [← size_toL]; omega) (by rw [← size_toL]; simp only [List.length_nil]; omega)
    rwa [ofL_data] at h
end Go.Proofs.YtcblmfcgjemgkaaDoor.XS
