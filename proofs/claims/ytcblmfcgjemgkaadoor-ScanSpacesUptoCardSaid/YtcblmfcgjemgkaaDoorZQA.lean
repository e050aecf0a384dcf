-- several texts of this claim in one, in their order (by a program of this session)
import Derived.Test.YtcblmfcgjemgkaaDoorZXS22
import Derived.Test.YtcblmfcgjemgkaaDoorZXS0
import Derived.Lib.SplitLaws
import Derived.Lib.IndexMore
import Derived.Test.YtcblmfcgjemgkaaDoorZXS4
import Derived.Test.YtcblmfcgjemgkaaDoorZXS3
import Derived.Test.YtcblmfcgjemgkaaDoorZXS1
import Derived.Lib.Join
import Derived.Test.YtcblmfcgjemgkaaDoorZXS13
import Derived.Test.YtcblmfcgjemgkaaDoorZXS12
import Derived.Test.YtcblmfcgjemgkaaDoorZXS11
import Derived.Test.YtcblmfcgjemgkaaDoorZXS15
import Derived.Test.YtcblmfcgjemgkaaDoorZXS9
import Derived.Test.YtcblmfcgjemgkaaDoorZXS14
import Derived.Test.YtcblmfcgjemgkaaDoorRows
import Derived.Test.YtcblmfcgjemgkaaDoorZWA
import Derived.Deep.Slices
import Derived.ChangeArms
import Derived.OpenShut
import Derived.ChangeOld
set_option linter.unusedVariables false
namespace Go.Proofs.YtcblmfcgjemgkaaDoor.XS
open Go.RowKit Go.Proofs.YtcblmfcgjemgkaaDoorW.PrintWords Go.Proofs.YtcblmfcgjemgkaaDoorW.PrintLast Go.Proofs.YtcblmfcgjemgkaaDoorW.PrintMore
def bellmanlaw10_ScanSpaces.PureU : Prop := ∀ (l0 : List ByteArray) (a1 : Int) (a2 : Int) (a3 : Int) (a4 : Int), (∀ _x ∈ l0, True) → (Lit.int .u8 a1).wf = true → (Lit.int .u8 a2).wf = true → (Lit.int .u8 a3).wf = true → (Lit.int .u8 a4).wf = true → ((l0.map (fun x => (x.size + 1))).sum + 1) + 1 + 1 + 1 + 1 ≤ 1048576 → ∃ k, bellmanlaw10_ScanSpaces.f k l0 a1 a2 a3 a4 = some true
end Go.Proofs.YtcblmfcgjemgkaaDoor.XS
set_option linter.unusedVariables false
set_option linter.unusedSimpArgs false
namespace Go.Proofs.YtcblmfcgjemgkaaDoor.XS
open Go.RowKit Go.Proofs.YtcblmfcgjemgkaaDoorW.PrintWords Go.Proofs.YtcblmfcgjemgkaaDoorW.PrintLast Go.Proofs.YtcblmfcgjemgkaaDoorW.PrintMore
def ofL (l : List UInt8) : ByteArray := ⟨l.toArray⟩
theorem ofL_data (s : ByteArray) : ofL s.data.toList = s := by cases s; simp [ofL]
theorem ofL_toL (l : List UInt8) : (ofL l).data.toList = l := by simp [ofL]
theorem ofL_size (l : List UInt8) : (ofL l).size = l.length := by simp [ofL, ByteArray.size]
theorem size_toL (s : ByteArray) : s.size = s.data.toList.length := Array.length_toList.symm
def fnd (c : UInt8) : List UInt8 → Option Nat
  | [] => none
  | [_] => none
  | x :: y :: l => if x = c ∧ y = c then some 0 else (fnd c (y :: l)).map (· + 1)
theorem index_two (c : UInt8) : ∀ l : List UInt8, Lib.index l [c, c] = match fnd c l with | none => -1 | some i => (i : Int)
  | [] => rfl
  | [x] => by
    rw [Lib.index, if_neg (by simp [List.isPrefixOf])]
    rfl
  | x :: y :: l => by
    have ih := index_two c (y :: l)
    rw [Lib.index, fnd, ih]
    by_cases h : x = c ∧ y = c
    · rw [if_pos h, if_pos (by simp [List.isPrefixOf, h.1, h.2])]
      rfl
    · rw [if_neg h, if_neg (by
        simp only [List.isPrefixOf, Bool.and_true, Bool.and_eq_true, beq_iff_eq]
        intro e
        exact h ⟨e.1.symm, e.2.symm⟩)]
      cases fnd c (y :: l) with
      | none => rfl
      | some i =>
        simp only [Option.map_some]
        rw [if_neg (by rw [beq_iff_eq]; omega)]
        rfl
theorem fnd_le {c : UInt8} : ∀ {l : List UInt8} {i : Nat}, fnd c l = some i → i + 2 ≤ l.length
  | [], _, h => by cases h
  | [_], _, h => by cases h
  | x :: y :: l, i, h => by
    rw [fnd] at h
    split at h
    · cases h; simp
    · obtain ⟨j, hj, rfl⟩ := Option.map_eq_some_iff.mp h
      have := fnd_le hj
      simp only [List.length_cons] at this ⊢
      omega
theorem cut_two (c : UInt8) (l : List UInt8) : Lib.cut l [c, c] = match fnd c l with | none => (l, [], false) | some i => (l.take i, l.drop (i + 2), true) := by
  unfold Lib.cut
  rw [index_two]
  cases fnd c l with
  | none => simp
  | some i =>
    simp only
    rw [if_pos (by omega)]
    simp
def spl (c : UInt8) : List UInt8 → List (List UInt8)
  | [] => [[]]
  | x :: l => if x = c then [] :: spl c l else match spl c l with | [] => [[x]] | p :: r => (x :: p) :: r
theorem spl_ne (c : UInt8) (l : List UInt8) : spl c l ≠ [] := by
  cases l with
  | nil => simp [spl]
  | cons x l =>
    rw [spl]
    split
    · simp
    · split <;> simp
theorem index_one (c : UInt8) : ∀ l : List UInt8, Lib.index l [c] = if c ∈ l then ((l.takeWhile (· != c)).length : Int) else -1
  | [] => by simp [Lib.index]
  | x :: l => by
    rw [Lib.index, index_one c l]
    by_cases h : c = x
    · subst h
      rw [if_pos (by simp [List.isPrefixOf])]
      simp
    · rw [if_neg (by simp [List.isPrefixOf, h])]
      by_cases h2 : c ∈ l
      · rw [if_pos h2, if_pos (List.mem_cons_of_mem _ h2), if_neg (by rw [beq_iff_eq]; omega)]
        have hx : (x != c) = true := bne_iff_ne.mpr (fun e => h e.symm)
        rw [List.takeWhile_cons, if_pos hx]
        simp
      · rw [if_neg h2, if_neg (fun e => (List.mem_cons.mp e).elim h h2), if_pos (by decide)]
theorem spl_none {c : UInt8} : ∀ {l : List UInt8}, c ∉ l → spl c l = [l]
  | [], _ => rfl
  | x :: l, h => by
    have h1 : x ≠ c := fun e => h (e ▸ List.mem_cons_self ..)
    rw [spl, if_neg h1, spl_none (fun e => h (List.mem_cons_of_mem _ e))]
theorem spl_some {c : UInt8} : ∀ {l : List UInt8}, c ∈ l → spl c l = l.takeWhile (· != c) :: spl c (l.drop ((l.takeWhile (· != c)).length + 1))
  | [], h => by cases h
  | x :: l, h => by
    by_cases h1 : x = c
    · subst h1
      rw [spl, if_pos rfl]
      simp
    · have hx : (x != c) = true := bne_iff_ne.mpr h1
      have h2 : c ∈ l := (List.mem_cons.mp h).resolve_left (fun e => h1 e.symm)
      rw [spl, if_neg h1, spl_some h2, List.takeWhile_cons, if_pos hx]
      simp
theorem splitK_spl (c : UInt8) : ∀ (k : Nat) (l : List UInt8), l.count c = k → Lib.splitK [c] 0 k l = spl c l
  | 0, l, h => by
    rw [Lib.splitK, spl_none (List.count_eq_zero.mp h)]
  | k + 1, l, h => by
    have hm : c ∈ l := by
      rw [← List.count_pos_iff]
      omega
    rw [Lib.splitK, index_one, if_pos hm, if_neg (by rw [beq_iff_eq]; omega), Int.toNat_natCast, Nat.add_zero, spl_some hm]
    have hsplit : l = l.takeWhile (· != c) ++ c :: l.drop ((l.takeWhile (· != c)).length + 1) := by
      clear h
      induction l with
      | nil => cases hm
      | cons x l ih =>
        by_cases h1 : x = c
        · subst h1; simp
        · have hx : (x != c) = true := bne_iff_ne.mpr h1
          have h2 : c ∈ l := (List.mem_cons.mp hm).resolve_left (fun e => h1 e.symm)
          rw [List.takeWhile_cons, if_pos hx]
          simp only [List.length_cons, List.drop_succ_cons, List.cons_append]
          rw [← ih h2]
    have hc : (l.drop ((l.takeWhile (· != c)).length + 1)).count c = k := by
      have h0 : (l.takeWhile (· != c)).count c = 0 := by
        rw [List.count_eq_zero]
        intro e
        have := List.all_eq_true.mp List.all_takeWhile c e
        simp at this
      have h1 := congrArg (List.count c) hsplit
      rw [List.count_append, h0, List.count_cons_self] at h1
      omega
    have ht : l.take (l.takeWhile (· != c)).length = l.takeWhile (· != c) := by
      have h := List.take_left (l₁ := l.takeWhile (· != c)) (l₂ := c :: l.drop ((l.takeWhile (· != c)).length + 1))
      rwa [← hsplit] at h
    rw [ht]
    congr 1
    exact splitK_spl c k _ hc
theorem split_spl (c : UInt8) (l : List UInt8) : Lib.splitK [c] 0 (Lib.count l [c]) l = spl c l := splitK_spl c _ l (Lib.count_one c l).symm
end Go.Proofs.YtcblmfcgjemgkaaDoor.XS
namespace Go.Proofs.YtcblmfcgjemgkaaDoor.XS
open Go.RowKit Go.Proofs.YtcblmfcgjemgkaaDoorW.PrintWords Go.Proofs.YtcblmfcgjemgkaaDoorW.PrintLast Go.Proofs.YtcblmfcgjemgkaaDoorW.PrintMore
theorem toList_data (s : ByteArray) : s.toList = s.data.toList := ByteArray.toList_eq s
def splB (c : UInt8) (s : ByteArray) : List ByteArray := (spl c s.data.toList).map ofL
theorem map_ofL (l : List ByteArray) : (l.map (·.data.toList)).map ofL = l := by
  rw [List.map_map]
  conv => rhs; rw [← List.map_id l]
  exact List.map_congr_left (fun x _ => ofL_data x)
theorem Split_f {s : ByteArray} (h : s.size < 4294967281) (c : UInt8) : strings_Split.f s (⟨#[c]⟩ : ByteArray) = some (splB c s) := by
  unfold strings_Split.f
  rw [if_pos ⟨h, Nat.le_refl _⟩, ← map_ofL (Lib.splitB _ _ _ _), Lib.splitB_data]
  unfold splB
  rw [← split_spl]
theorem splB_length (c : UInt8) (s : ByteArray) : 0 < (splB c s).length := by
  unfold splB
  rw [List.length_map]
  exact List.length_pos_iff.mpr (spl_ne c _)
theorem spl_bound (c : UInt8) : ∀ l : List UInt8, (spl c l).length ≤ l.length + 1 ∧ ∀ p ∈ spl c l, p.length ≤ l.length
  | [] => by simp [spl]
  | x :: l => by
    have ⟨h1, h2⟩ := spl_bound c l
    rw [spl]
    split
    · refine ⟨by simp only [List.length_cons]; omega, fun p hp => ?_⟩
      rcases List.mem_cons.mp hp with rfl | hp
      · simp
      · have := h2 p hp; simp only [List.length_cons]; omega
    · split
      · refine ⟨by simp, fun p hp => ?_⟩
        rw [List.mem_singleton] at hp
        subst hp; simp
      · rename_i p r he
        rw [he] at h1 h2
        refine ⟨by simp only [List.length_cons] at h1 ⊢; omega, fun q hq => ?_⟩
        rcases List.mem_cons.mp hq with rfl | hq
        · have := h2 p (List.mem_cons_self ..); simp only [List.length_cons]; omega
        · have := h2 q (List.mem_cons_of_mem _ hq); simp only [List.length_cons]; omega
def ownM (s : ByteArray) : Int := if s.data.toList = [105, 102] then 3 else if s.data.toList = [101, 108, 115, 101] then 4 else if s.data.toList = [101, 97, 99, 104] then 5 else if s.data.toList = [101, 110, 100] then 6 else 2
theorem own_f (s : ByteArray) : Ev (fun k => scan_own.f k s) (ownM s) := by
  unfold scan_own.f
  have h : ∀ k i : Int, ∀ t : ByteArray, scan_words.f i = some t → i < 7 → ∀ n, scan_own.l0 (n + 1) s i = if t.data.toList = s.data.toList then some i else scan_own.l0 n s ((i + 1) % 256) := by
    intro _ i t h1 h2 n
    rw [scan_own.l0, if_pos h2, h1, Option.bind_some, toList_data, toList_data]
  have w3 : scan_words.f 3 = some (⟨#[105, 102]⟩ : ByteArray) := rfl
  have w4 : scan_words.f 4 = some (⟨#[101, 108, 115, 101]⟩ : ByteArray) := rfl
  have w5 : scan_words.f 5 = some (⟨#[101, 97, 99, 104]⟩ : ByteArray) := rfl
  have w6 : scan_words.f 6 = some (⟨#[101, 110, 100]⟩ : ByteArray) := rfl
  have e7 : ∀ n, scan_own.l0 (n + 1) s 7 = some 2 := fun n => by rw [scan_own.l0, if_neg (by decide)]
  unfold ownM
  by_cases a : s.data.toList = [105, 102]
  · rw [if_pos a]
    exact Ev.step (f := fun _ => some 3) (fun n => by rw [h 0 3 _ w3 (by decide), if_pos a.symm]) (Ev.now _)
  · rw [if_neg a]
    refine Ev.step (f := fun n => scan_own.l0 n s 4) (fun n => by rw [h 0 3 _ w3 (by decide), if_neg (fun e => a e.symm)]; rfl) ?_
    by_cases b : s.data.toList = [101, 108, 115, 101]
    · rw [if_pos b]
      exact Ev.step (f := fun _ => some 4) (fun n => by rw [h 0 4 _ w4 (by decide), if_pos b.symm]) (Ev.now _)
    · rw [if_neg b]
      refine Ev.step (f := fun n => scan_own.l0 n s 5) (fun n => by rw [h 0 4 _ w4 (by decide), if_neg (fun e => b e.symm)]; rfl) ?_
      by_cases c : s.data.toList = [101, 97, 99, 104]
      · rw [if_pos c]
        exact Ev.step (f := fun _ => some 5) (fun n => by rw [h 0 5 _ w5 (by decide), if_pos c.symm]) (Ev.now _)
      · rw [if_neg c]
        refine Ev.step (f := fun n => scan_own.l0 n s 6) (fun n => by rw [h 0 5 _ w5 (by decide), if_neg (fun e => c e.symm)]; rfl) ?_
        by_cases d : s.data.toList = [101, 110, 100]
        · rw [if_pos d]
          exact Ev.step (f := fun _ => some 6) (fun n => by rw [h 0 6 _ w6 (by decide), if_pos d.symm]) (Ev.now _)
        · rw [if_neg d]
          exact Ev.step (f := fun n => scan_own.l0 n s 7) (fun n => by rw [h 0 6 _ w6 (by decide), if_neg (fun e => d e.symm)]; rfl) (Ev.step (f := fun _ => some 2) e7 (Ev.now _))
def rtM (l : List ByteArray) : Bool := decide (1 ≤ l.length) && (decide (l.length ≤ 4) && ((decide (l.length ≠ 1) || decide (ownM (l.getD 0 ByteArray.empty) = 2)) && l.all nm))
theorem any_not (l : List ByteArray) : (!(l.any fun s => !nm s)) = l.all nm := by
  induction l with
  | nil => rfl
  | cons x l ih => rw [List.any_cons, List.all_cons, Bool.not_or, Bool.not_not, ih]
theorem right_f (l : List ByteArray) : Ev (fun k => scan_right.f k l) (rtM l) := by
  unfold scan_right.f slices_ContainsFunc_string_string.f rtM
  simp only [Option.bind_some, any_not]
  by_cases a : (l.length : Int) < 1
  · simp only [if_pos a]
    rw [decide_eq_false (show ¬ 1 ≤ l.length by omega)]
    exact Ev.now _
  · simp only [if_neg a]
    rw [decide_eq_true (show 1 ≤ l.length by omega), Bool.true_and]
    by_cases b : (l.length : Int) > 4
    · simp only [if_pos b]
      rw [decide_eq_false (show ¬ l.length ≤ 4 by omega)]
      exact Ev.now _
    · simp only [if_neg b]
      rw [decide_eq_true (show l.length ≤ 4 by omega), Bool.true_and]
      by_cases c : (l.length : Int) = 1
      · simp only [if_pos c, if_pos (show (0 : Int) < l.length by omega)]
        rw [decide_eq_false (show ¬ (l.length ≠ 1) by omega), Bool.false_or]
        refine Ev.bind (own_f _) (f := fun _ t => if t = 2 then some (l.all nm) else some false) ?_
        have e : rdOf ByteArray.empty l 0 = l.getD 0 ByteArray.empty := rfl
        rw [e]
        by_cases d : ownM (l.getD 0 ByteArray.empty) = 2
        · rw [if_pos d, decide_eq_true d, Bool.true_and]; exact Ev.now _
        · rw [if_neg d, decide_eq_false d, Bool.false_and]; exact Ev.now _
      · simp only [if_neg c]
        rw [decide_eq_true (show l.length ≠ 1 by omega), Bool.true_or, Bool.true_and]
        exact Ev.now _
def pthM (s : ByteArray) : List ByteArray × Int := if rtM (splB 46 s) = true then (splB 46 s, 0) else ([], 13)
theorem Path_f {s : ByteArray} (h : s.size < 4294967281) : Ev (fun k => scan_Path.f k s) (pthM s) := by
  unfold scan_Path.f pthM
  rw [Split_f h]
  simp only [Option.bind_some]
  refine Ev.bind (right_f _) (f := fun _ t => if t = true then some (splB 46 s, 0) else some (([] : List ByteArray), 13)) ?_
  cases rtM (splB 46 s) with
  | true => exact Ev.now _
  | false => exact Ev.now _
def tagM (s : ByteArray) : Option S40 :=
  match (splB 32 s).filter (fun x => !sc_empty x) with
  | [a] => if ownM a = 4 ∨ ownM a = 6 then some ⟨ownM a, (⟨#[]⟩ : ByteArray), []⟩ else if ownM a = 2 then (if (pthM a).2 = 0 then some ⟨2, (⟨#[]⟩ : ByteArray), (pthM a).1⟩ else none) else none
  | [a, b] => if ownM a = 3 ∨ ownM a = 5 then (if (pthM b).2 = 0 then some ⟨ownM a, (⟨#[]⟩ : ByteArray), (pthM b).1⟩ else none) else none
  | _ => none
def tagR (o : Option S40) : Int × ByteArray × List ByteArray × Int := match o with | none => (0, (⟨#[]⟩ : ByteArray), [], 7) | some t => (t.f0, t.f1, t.f2, 0)
theorem own_cases (s : ByteArray) : ownM s = 2 ∨ ownM s = 3 ∨ ownM s = 4 ∨ ownM s = 5 ∨ ownM s = 6 := by
  unfold ownM
  repeat' split
  all_goals simp
theorem piece_size {c : UInt8} {s x : ByteArray} (h : x ∈ splB c s) : x.size ≤ s.size := by
  unfold splB at h
  obtain ⟨p, hp, rfl⟩ := List.mem_map.mp h
  rw [ofL_size, size_toL]
  exact (spl_bound c _).2 p hp
theorem tag_j3 {s b : ByteArray} {l : List ByteArray} {o : Int} (hs : b.size < 4294967281) (hl : 0 < l.length) (hm : l.length ≤ 2) (hb : l.getD (l.length - 1) ByteArray.empty = b) :
    Ev (fun k => scan_tag.j3 k l o false) (tagR (if (pthM b).2 = 0 then some ⟨o, (⟨#[]⟩ : ByteArray), (pthM b).1⟩ else none)) := by
  have hw : wrap64 ((l.length : Int) - 1) = ((l.length - 1 : Nat) : Int) := by unfold wrap64; omega
  refine Ev.step (fun k => ?_) (Ev.bind (Path_f hs) (f := fun _ bt120 => if bt120.2 = 0 then some (o, (⟨#[]⟩ : ByteArray), bt120.1, (0 : Int)) else some (0, (⟨#[]⟩ : ByteArray), ([] : List ByteArray), 7)) ?_)
  · rw [scan_tag.j3, if_neg (by decide), hw, if_pos (by omega), if_pos (by omega)]
    have e : rdOf ByteArray.empty l ((l.length - 1 : Nat) : Int) = b := by unfold rdOf; rw [Int.toNat_natCast]; exact hb
    rw [e]
  · by_cases c : (pthM b).2 = 0
    · rw [if_pos c, if_pos c]; exact Ev.now _
    · rw [if_neg c, if_neg c]; exact Ev.now _
theorem tag_no (l : List ByteArray) (o : Int) : Ev (fun k => scan_tag.j3 k l o true) (tagR none) := Ev.step (f := fun _ => some (tagR none)) (fun k => by rw [scan_tag.j3, if_pos rfl]; rfl) (Ev.now _)
theorem tag_f {s : ByteArray} (h : s.size < 4294967281) : Ev (fun k => scan_tag.f k s) (tagR (tagM s)) := by
  unfold scan_tag.f tagM
  rw [Split_f h]
  unfold slices_DeleteFunc_string_string.f
  simp only [Option.bind_some, if_pos (splB_length 32 s)]
  have hsub : ∀ x ∈ (splB 32 s).filter (fun x => !sc_empty x), x.size < 4294967281 := fun x hx => by have := piece_size (List.mem_filter.mp hx).1; omega
  generalize (splB 32 s).filter (fun x => !sc_empty x) = l at hsub ⊢
  have no0 : Ev (fun k => scan_tag.j0 k l true) (tagR none) := Ev.step (f := fun _ => some (tagR none)) (fun k => by rw [scan_tag.j0, if_pos rfl]; rfl) (Ev.now _)
  match l, hsub, no0 with
  | [], _, no0 => exact no0
  | [a], hsub, _ =>
    simp only [List.length_cons, List.length_nil]
    have ha := hsub a (List.mem_singleton_self _)
    have h1 : ∀ b, scan_own.f = scan_own.f → b = ownM a → Ev (fun k => scan_tag.j1 k [a] b (decide (b = 4 ∨ b = 6))) (tagR (if b = 4 ∨ b = 6 then some ⟨b, (⟨#[]⟩ : ByteArray), []⟩ else if b = 2 then (if (pthM a).2 = 0 then some ⟨2, (⟨#[]⟩ : ByteArray), (pthM a).1⟩ else none) else none)) := by
      intro b _ hb
      by_cases c : b = 4 ∨ b = 6
      · rw [if_pos c, decide_eq_true c]
        exact Ev.step (f := fun _ => some (b, (⟨#[]⟩ : ByteArray), ([] : List ByteArray), (0 : Int))) (fun k => by rw [scan_tag.j1, if_pos rfl, if_pos (by rfl)]) (Ev.now _)
      · rw [if_neg c, decide_eq_false c]
        by_cases d : b = 2
        · rw [if_pos d]
          refine Ev.step (f := fun k => scan_tag.j2 k [a] b false) (fun k => by rw [scan_tag.j1, if_neg (by decide), if_pos d]) ?_
          refine Ev.step (f := fun k => scan_tag.j3 k [a] b false) (fun k => by rw [scan_tag.j2, if_neg (by decide), if_pos d]; rfl) ?_
          have := tag_j3 (s := s) (b := a) (l := [a]) (o := b) ha (by simp) (by simp) rfl
          rw [d] at this ⊢
          exact this
        · rw [if_neg d]
          refine Ev.step (f := fun k => scan_tag.j2 k [a] b true) (fun k => by rw [scan_tag.j1, if_neg (by decide), if_neg d]; rfl) ?_
          exact Ev.step (f := fun k => scan_tag.j3 k [a] b true) (fun k => by rw [scan_tag.j2, if_pos rfl]) (tag_no _ _)
    refine Ev.step (f := fun k => (scan_own.f k a).bind fun t118 => if t118 = 4 then scan_tag.j1 k [a] t118 true else scan_tag.j1 k [a] t118 (t118 == 6)) (fun k => by simp [scan_tag.j0, rdOf]) ?_
    refine Ev.bind (own_f a) (f := fun k t118 => if t118 = 4 then scan_tag.j1 k [a] t118 true else scan_tag.j1 k [a] t118 (t118 == 6)) ?_
    have h2 := h1 (ownM a) rfl rfl
    by_cases c : ownM a = 4
    · simp only [if_pos c]
      rwa [decide_eq_true (Or.inl c)] at h2
    · simp only [if_neg c]
      have e : (ownM a == 6) = decide (ownM a = 4 ∨ ownM a = 6) := by
        rw [Bool.eq_iff_iff, beq_iff_eq, decide_eq_true_eq]
        simp [c]
      rw [e]
      exact h2
  | [a, b], hsub, _ =>
    simp only [List.length_cons, List.length_nil]
    have hb := hsub b (by simp)
    refine Ev.step (f := fun k => (scan_own.f k a).bind fun t118 => if t118 = 4 then scan_tag.j1 k [a, b] t118 true else scan_tag.j1 k [a, b] t118 (t118 == 6)) (fun k => by simp [scan_tag.j0, rdOf]) ?_
    refine Ev.bind (own_f a) (f := fun k t118 => if t118 = 4 then scan_tag.j1 k [a, b] t118 true else scan_tag.j1 k [a, b] t118 (t118 == 6)) ?_
    have jt : ∀ o, Ev (fun k => scan_tag.j1 k [a, b] o true) (tagR none) := fun o => Ev.step (f := fun _ => some (tagR none)) (fun k => by rw [scan_tag.j1, if_pos rfl, if_neg (by simp)]; rfl) (Ev.now _)
    rcases own_cases a with o | o | o | o | o <;> rw [o]
    · refine Ev.step (f := fun k => scan_tag.j2 k [a, b] 2 false) (fun k => by rw [if_neg (by decide), show ((2 : Int) == 6) = false from rfl, scan_tag.j1, if_neg (by decide), if_pos rfl]) ?_
      exact Ev.step (f := fun k => scan_tag.j3 k [a, b] 2 true) (fun k => by rw [scan_tag.j2, if_neg (by decide), if_pos rfl]; rfl) (tag_no _ _)
    · refine Ev.step (f := fun k => scan_tag.j2 k [a, b] 3 false) (fun k => by rw [if_neg (by decide), show ((3 : Int) == 6) = false from rfl, scan_tag.j1, if_neg (by decide), if_neg (by decide)]; rfl) ?_
      refine Ev.step (f := fun k => scan_tag.j3 k [a, b] 3 false) (fun k => by rw [scan_tag.j2, if_neg (by decide), if_neg (by decide)]) ?_
      exact tag_j3 (s := s) (b := b) (l := [a, b]) (o := 3) hb (by simp) (by simp) rfl
    · exact jt 4
    · refine Ev.step (f := fun k => scan_tag.j2 k [a, b] 5 false) (fun k => by rw [if_neg (by decide), show ((5 : Int) == 6) = false from rfl, scan_tag.j1, if_neg (by decide), if_neg (by decide)]; rfl) ?_
      refine Ev.step (f := fun k => scan_tag.j3 k [a, b] 5 false) (fun k => by rw [scan_tag.j2, if_neg (by decide), if_neg (by decide)]) ?_
      exact tag_j3 (s := s) (b := b) (l := [a, b]) (o := 5) hb (by simp) (by simp) rfl
    · exact jt 6
  | a :: b :: c :: r, hsub, no0 =>
    have e1 : ¬ (((a :: b :: c :: r).length : Int) = 0) := by simp only [List.length_cons]; omega
    have e2 : decide (((a :: b :: c :: r).length : Int) > 2) = true := decide_eq_true (by simp only [List.length_cons]; omega)
    simp only [if_neg e1, e2]
    exact no0
def txt (l : List UInt8) : S40 := ⟨1, ofL l, []⟩
def tkM : Nat → List UInt8 → List S40 → List S40 × Int
  | 0, _, out => (out, 0)
  | n + 1, s, out => if s = [] then (out, 0) else
    match fnd 123 s with
    | none => (out ++ [txt s], 0)
    | some i =>
      match fnd 125 (s.drop (i + 2)) with
      | none => ([], 7)
      | some j =>
        match tagM (ofL ((s.drop (i + 2)).take j)) with
        | none => ([], 7)
        | some t => tkM n ((s.drop (i + 2)).drop (j + 2)) ((if i = 0 then out else out ++ [txt (s.take i)]) ++ [t])
def tokensM (s : ByteArray) : List S40 × Int := if 1024 < s.size then ([], 12) else tkM (s.size + 1) s.data.toList []
theorem cut_f (c : UInt8) {l : List UInt8} (h : l.length < 4294967281) : strings_Cut.f (ofL l) (⟨#[c, c]⟩ : ByteArray) = some (match fnd c l with | none => (ofL l, ofL [], false) | some i => (ofL (l.take i), ofL (l.drop (i + 2)), true)) := by
  unfold strings_Cut.f
  rw [if_pos (by rw [ofL_size]; exact h), ofL_toL]
  have e : (⟨#[c, c]⟩ : ByteArray).data.toList = [c, c] := rfl
  rw [e, cut_two]
  cases fnd c l <;> rfl
theorem ofL_nil (l : List UInt8) : (ofL l).toList = ([] : List UInt8) ↔ l = [] := by rw [toList_data, ofL_toL]
theorem tok_f : ∀ (n : Nat) (s : List UInt8) (out : List S40), s.length ≤ n → s.length ≤ 1024 → out.length + 2 * s.length ≤ 4096 → Ev (fun k => scan_Tokens.l0 k (ofL s) out) (tkM (n + 1) s out)
  | n, s, out, h1, h2, h3 => by
    rw [tkM]
    by_cases a : s = []
    · rw [if_pos a]
      exact Ev.step (f := fun _ => some (out, 0)) (fun k => by rw [scan_Tokens.l0, if_pos ((ofL_nil s).2 a)]) (Ev.now _)
    · rw [if_neg a]
      have hl : 0 < s.length := List.length_pos_iff.mpr a
      have hc := cut_f 123 (l := s) (by omega)
      have hst : ∀ k, scan_Tokens.l0 (k + 1) (ofL s) out = (strings_Cut.f (ofL s) (⟨#[123, 123]⟩ : ByteArray)).bind fun bt126 => (if bt126.1.toList = ([] : List UInt8) then scan_Tokens.j1 k out bt126.2.1 bt126.2.2 else if out.length < 2932031007402 then scan_Tokens.j1 k (out ++ [⟨1, bt126.1, []⟩]) bt126.2.1 bt126.2.2 else none) := fun k => by
        rw [scan_Tokens.l0, if_neg (fun e => a ((ofL_nil s).1 e))]
      cases hf : fnd 123 s with
      | none =>
        rw [hf] at hc
        simp only at hc ⊢
        refine Ev.step (f := fun k => scan_Tokens.j1 k (out ++ [txt s]) (ofL []) false) (fun k => ?_) ?_
        · rw [hst, hc, Option.bind_some]
          simp only
          rw [if_neg (fun e => a ((ofL_nil s).1 e)), if_pos (by omega)]
          rfl
        · exact Ev.step (f := fun _ => some (out ++ [txt s], 0)) (fun k => by rw [scan_Tokens.j1, if_neg (by decide)]) (Ev.now _)
      | some i =>
        rw [hf] at hc
        simp only at hc ⊢
        have hi := fnd_le hf
        have hout : (if i = 0 then out else out ++ [txt (s.take i)]).length ≤ out.length + 1 := by split <;> simp
        refine Ev.step (f := fun k => scan_Tokens.j1 k (if i = 0 then out else out ++ [txt (s.take i)]) (ofL (s.drop (i + 2))) true) (fun k => ?_) ?_
        · rw [hst, hc, Option.bind_some]
          simp only
          by_cases b : i = 0
          · subst b
            rw [if_pos ((ofL_nil _).2 (by simp)), if_pos rfl]
          · have hne : s.take i ≠ [] := by
              intro e
              have := congrArg List.length e
              rw [List.length_take] at this
              simp only [List.length_nil] at this
              omega
            rw [if_neg (fun e => hne ((ofL_nil _).1 e)), if_pos (by omega), if_neg b]
            rfl
        · generalize (if i = 0 then out else out ++ [txt (s.take i)]) = o2 at hout ⊢
          have hd : (s.drop (i + 2)).length = s.length - (i + 2) := List.length_drop
          generalize s.drop (i + 2) = u at hd ⊢
          have hc2 := cut_f 125 (l := u) (by omega)
          cases hg : fnd 125 u with
          | none =>
            rw [hg] at hc2
            simp only at hc2 ⊢
            refine Ev.step (f := fun _ => some (([] : List S40), (7 : Int))) (fun k => ?_) (Ev.now _)
            rw [scan_Tokens.j1, if_pos rfl, hc2, Option.bind_some]
            simp only
            rw [if_neg (by decide)]
          | some j =>
            rw [hg] at hc2
            simp only at hc2 ⊢
            have hj := fnd_le hg
            have ht := tag_f (s := ofL (u.take j)) (by rw [ofL_size, List.length_take]; omega)
            refine Ev.step (fun k => by rw [scan_Tokens.j1, if_pos rfl, hc2, Option.bind_some, if_pos rfl]) (Ev.bind ht (f := fun k bt135 => if bt135.2.2.2 = 0 then (if o2.length < 2932031007402 then scan_Tokens.l0 k (ofL (u.drop (j + 2))) (o2 ++ [⟨bt135.1, bt135.2.1, bt135.2.2.1⟩]) else none) else some (([] : List S40), bt135.2.2.2)) ?_)
            cases tagM (ofL (u.take j)) with
            | none =>
              simp only [tagR]
              exact Ev.now _
            | some t =>
              simp only [tagR, if_true, if_pos (show o2.length < 2932031007402 by omega)]
              have hn : ∃ m, n = m + 1 := ⟨n - 1, by omega⟩
              obtain ⟨m, rfl⟩ := hn
              have hd2 : (u.drop (j + 2)).length = u.length - (j + 2) := List.length_drop
              exact tok_f m (u.drop (j + 2)) (o2 ++ [t]) (by omega) (by omega) (by simp only [List.length_append, List.length_cons, List.length_nil]; omega)
theorem Tokens_f (s : ByteArray) : Ev (fun k => scan_Tokens.f k s) (tokensM s) := by
  unfold scan_Tokens.f tokensM
  by_cases c : 1024 < s.size
  · simp only [if_pos (show (s.size : Int) > 1024 by omega), if_pos c]
    exact Ev.now _
  · simp only [if_neg (show ¬ (s.size : Int) > 1024 by omega), if_neg c]
    have h := tok_f s.size s.data.toList [] (by rw [size_toL]; exact Nat.le_refl _) (by rw [← size_toL]; omega) (by rw [← size_toL]; simp only [List.length_nil]; omega)
    rwa [ofL_data] at h
end Go.Proofs.YtcblmfcgjemgkaaDoor.XS
set_option linter.unusedVariables false
set_option linter.unusedSimpArgs false
namespace Go.Proofs.YtcblmfcgjemgkaaDoor.XS
open Go.RowKit Go.Proofs.YtcblmfcgjemgkaaDoorW.PrintWords Go.Proofs.YtcblmfcgjemgkaaDoorW.PrintLast Go.Proofs.YtcblmfcgjemgkaaDoorW.PrintMore
theorem w_one {i : Nat} (h : i < 4611686018427387904) : wrap64 ((i : Int) + 1) = ((i + 1 : Nat) : Int) := by unfold wrap64; omega
theorem ext_ofL (s : ByteArray) (a b : Nat) : s.extract a b = ofL ((s.data.toList.drop a).take (b - a)) := by
  rw [← ofL_data (s.extract a b), Lib.extract_data]
theorem sc_empty_iff (x : ByteArray) : x.toList = ([] : List UInt8) ↔ sc_empty x = true := by
  unfold sc_empty
  rw [toList_data, decide_eq_true_eq, size_toL]
  constructor
  · intro h; rw [h]; rfl
  · intro h; exact List.eq_nil_of_length_eq_zero h
theorem fnd_skip {c : UInt8} : ∀ {x : List UInt8} (r : List UInt8), fnd c x = none → x.getLast? ≠ some c → fnd c (x ++ c :: c :: r) = some x.length
  | [], r, _, _ => by rw [List.nil_append, fnd, if_pos ⟨rfl, rfl⟩]; rfl
  | [a], r, _, h => by
    have ha : a ≠ c := fun e => h (by rw [e]; rfl)
    show fnd c (a :: c :: c :: r) = _
    rw [fnd, if_neg (fun e => ha e.1), fnd, if_pos ⟨rfl, rfl⟩]
    rfl
  | a :: b :: x, r, h1, h2 => by
    rw [fnd] at h1
    split at h1
    · cases h1
    · rename_i hn
      have h1' : fnd c (b :: x) = none := by
        cases e : fnd c (b :: x) with
        | none => rfl
        | some i => rw [e] at h1; cases h1
      have ih := fnd_skip (x := b :: x) r h1' (by rwa [List.getLast?_cons_cons] at h2)
      show fnd c (a :: b :: (x ++ c :: c :: r)) = _
      rw [fnd, if_neg hn]
      rw [List.cons_append] at ih
      rw [ih]
      rfl
theorem fnd_not_mem {c : UInt8} : ∀ {x : List UInt8}, c ∉ x → fnd c x = none
  | [], _ => rfl
  | [_], _ => rfl
  | a :: b :: x, h => by
    rw [fnd, if_neg (fun (e : a = c ∧ b = c) => h (by rw [e.1]; exact List.mem_cons_self ..)), fnd_not_mem (fun e => h (List.mem_cons_of_mem _ e))]
    rfl
theorem fnd_at {c : UInt8} {x : List UInt8} (r : List UInt8) (h : c ∉ x) : fnd c (x ++ c :: c :: r) = some x.length :=
  fnd_skip r (fnd_not_mem h) (fun e => h (List.mem_of_getLast? e))
theorem spl_app {c : UInt8} : ∀ {p : List UInt8} (r : List UInt8), c ∉ p → spl c (p ++ c :: r) = p :: spl c r
  | [], r, _ => by rw [List.nil_append, spl, if_pos rfl]
  | x :: p, r, h => by
    have h1 : x ≠ c := fun e => h (e ▸ List.mem_cons_self ..)
    rw [List.cons_append, spl, if_neg h1, spl_app r (fun e => h (List.mem_cons_of_mem _ e))]
theorem join_two (c : UInt8) (x y : List UInt8) (r : List (List UInt8)) : Lib.join (x :: y :: r) [c] = x ++ c :: Lib.join (y :: r) [c] := by
  rw [Lib.join_cons, Lib.join_cons]
  simp [Lib.joinTail]
theorem spl_join {c : UInt8} : ∀ {ps : List (List UInt8)}, ps ≠ [] → (∀ p ∈ ps, c ∉ p) → spl c (Lib.join ps [c]) = ps
  | [], h, _ => absurd rfl h
  | [p], _, h => by rw [Lib.join_one, spl_none (h p (List.mem_singleton_self _))]
  | p :: q :: ps, _, h => by
    rw [join_two, spl_app _ (h p (List.mem_cons_self ..)), spl_join (by simp) (fun x hx => h x (List.mem_cons_of_mem _ hx))]
theorem nmc_byte {i : Nat} {b : Int} (h : nmc i b = true) : b ≠ 46 ∧ b ≠ 32 ∧ b ≠ 125 ∧ b ≠ 123 := by
  unfold nmc at h
  simp only [Bool.or_eq_true, Bool.and_eq_true, decide_eq_true_eq] at h
  omega
theorem nmr_byte (s : ByteArray) : ∀ (d i : Nat), nmr s i d = true → ∀ j, i ≤ j → j < i + d → nmc j (bt s (j : Int)) = true
  | 0, i, _, j, h1, h2 => absurd h2 (by omega)
  | d + 1, i, h, j, h1, h2 => by
    have e : nmr s i (d + 1) = (nmc i (bt s (i : Int)) && nmr s (i + 1) d) := rfl
    rw [e, Bool.and_eq_true] at h
    by_cases c : j = i
    · rw [c]; exact h.1
    · exact nmr_byte s d (i + 1) h.2 j (by omega) (by omega)
theorem nm_facts {s : ByteArray} (h : nm s = true) : 0 < s.size ∧ s.size ≤ 32 ∧ nmr s 0 s.size = true := by
  unfold nm at h
  simp only [Bool.and_eq_true, decide_eq_true_eq] at h
  exact ⟨h.1, h.2.1, h.2.2⟩
theorem nm_bytes {s : ByteArray} (h : nm s = true) : ∀ c ∈ s.data.toList, c ≠ 46 ∧ c ≠ 32 ∧ c ≠ 125 ∧ c ≠ 123 := by
  intro c hc
  obtain ⟨j, hj, rfl⟩ := List.getElem_of_mem hc
  have h3 := nmr_byte s s.size 0 (nm_facts h).2.2 j (by omega) (by rw [size_toL]; omega)
  have e : bt s (j : Int) = ((s.data.toList[j]).toNat : Int) := by
    have h2 : j < s.size := by rw [size_toL]; exact hj
    unfold bt
    rw [Int.toNat_natCast, dif_pos h2]
    rfl
  rw [e] at h3
  have h4 := nmc_byte h3
  refine ⟨?_, ?_, ?_, ?_⟩ <;> intro e <;> rw [e] at h4 <;> simp at h4
def fineM (t : S40) (next text : Bool) : Bool :=
  if t.f0 = 1 then !sc_empty t.f1 && (decide (t.f2.length = 0) && ((fnd 123 t.f1.data.toList).isNone && (!text && !(next && decide (t.f1.data.toList.getLast? = some 123)))))
  else if t.f0 = 2 ∨ t.f0 = 3 ∨ t.f0 = 5 then sc_empty t.f1 && rtM t.f2
  else if t.f0 = 4 ∨ t.f0 = 6 then sc_empty t.f1 && decide (t.f2.length = 0) else false
def checkM : List S40 → Bool
  | [] => true
  | [t] => fineM t false false
  | t :: u :: l => fineM t true (decide (u.f0 = 1)) && checkM (u :: l)
theorem emp_ofL {l : List UInt8} (h : l ≠ []) : sc_empty (ofL l) = false := by
  unfold sc_empty
  rw [decide_eq_false_iff_not, ofL_size]
  intro e
  exact h (List.eq_nil_of_length_eq_zero e)
theorem sc_empty_nil (l : List UInt8) : sc_empty (ofL l) = decide (l = []) := by
  cases l with
  | nil => rfl
  | cons x l => rw [emp_ofL (by simp)]; rfl
theorem toL_append (a b : ByteArray) : (a ++ b).data.toList = a.data.toList ++ b.data.toList := by rw [ByteArray.data_append, Array.toList_append]
theorem splB_ofL (c : UInt8) (l : List UInt8) : splB c (ofL l) = (spl c l).map ofL := by unfold splB; rw [ofL_toL]
theorem rtM_facts {l : List ByteArray} (h : rtM l = true) : 1 ≤ l.length ∧ l.length ≤ 4 ∧ (l.length ≠ 1 ∨ ownM (l.getD 0 ByteArray.empty) = 2) ∧ ∀ x ∈ l, nm x = true := by
  unfold rtM at h
  simp only [Bool.and_eq_true, Bool.or_eq_true, decide_eq_true_eq, List.all_eq_true] at h
  exact ⟨h.1, h.2.1, h.2.2.1, h.2.2.2⟩
theorem path_split {l : List ByteArray} (h : rtM l = true) : splB 46 (ofL (Lib.join (l.map (·.data.toList)) [46])) = l := by
  obtain ⟨h1, _, _, h4⟩ := rtM_facts h
  rw [splB_ofL, spl_join, map_ofL]
  · intro e
    rw [List.map_eq_nil_iff] at e
    rw [e] at h1
    simp at h1
  · intro p hp
    obtain ⟨x, hx, rfl⟩ := List.mem_map.mp hp
    intro hc
    exact (nm_bytes (h4 x hx) 46 hc).1 rfl
theorem path_pth {l : List ByteArray} (h : rtM l = true) : pthM (ofL (Lib.join (l.map (·.data.toList)) [46])) = (l, 0) := by
  unfold pthM
  rw [path_split h, if_pos h]
theorem mem_join {c d : UInt8} : ∀ {ps : List (List UInt8)}, d ∈ Lib.join ps [c] → d = c ∨ ∃ p ∈ ps, d ∈ p
  | [], h => by cases h
  | [p], h => by rw [Lib.join_one] at h; exact Or.inr ⟨p, List.mem_singleton_self _, h⟩
  | p :: q :: ps, h => by
    rw [join_two] at h
    rcases List.mem_append.mp h with h | h
    · exact Or.inr ⟨p, List.mem_cons_self .., h⟩
    · rcases List.mem_cons.mp h with h | h
      · exact Or.inl h
      · rcases mem_join h with h | ⟨x, hx, h⟩
        · exact Or.inl h
        · exact Or.inr ⟨x, List.mem_cons_of_mem _ hx, h⟩
theorem path_bytes {l : List ByteArray} (h : rtM l = true) : ∀ c ∈ Lib.join (l.map (·.data.toList)) [46], c ≠ 32 ∧ c ≠ 125 ∧ c ≠ 123 := by
  intro c hc
  rcases mem_join hc with rfl | ⟨p, hp, hc⟩
  · decide
  · obtain ⟨x, hx, rfl⟩ := List.mem_map.mp hp
    have := nm_bytes ((rtM_facts h).2.2.2 x hx) c hc
    exact ⟨this.2.1, this.2.2.1, this.2.2.2⟩
theorem path_ne {l : List ByteArray} (h : rtM l = true) : Lib.join (l.map (·.data.toList)) [46] ≠ [] := by
  obtain ⟨h1, _, _, h4⟩ := rtM_facts h
  match l, h1, h4 with
  | x :: r, _, h4 =>
    have := (nm_facts (h4 x (List.mem_cons_self ..))).1
    rw [size_toL] at this
    rw [List.map_cons, Lib.join_cons]
    intro e
    have e2 := congrArg List.length e
    simp only [List.length_append, List.length_nil] at e2
    omega
theorem own_mem {s : ByteArray} {c : UInt8} (hc : c ∈ s.data.toList) (h : c = 46) : ownM s = 2 := by
  subst h
  unfold ownM
  rw [if_neg (fun e => by rw [e] at hc; revert hc; decide), if_neg (fun e => by rw [e] at hc; revert hc; decide), if_neg (fun e => by rw [e] at hc; revert hc; decide), if_neg (fun e => by rw [e] at hc; revert hc; decide)]
theorem path_own {l : List ByteArray} (h : rtM l = true) : ownM (ofL (Lib.join (l.map (·.data.toList)) [46])) = 2 := by
  obtain ⟨h1, _, h3, _⟩ := rtM_facts h
  match l, h1, h3 with
  | [x], _, h3 =>
    rcases h3 with h3 | h3
    · exact absurd rfl h3
    · rw [List.map_cons, List.map_nil, Lib.join_one, ofL_data]
      exact h3
  | x :: y :: r, _, _ =>
    refine own_mem (c := 46) ?_ rfl
    rw [ofL_toL, List.map_cons, List.map_cons, join_two]
    simp
theorem drop_app {α : Type} (x : List α) (a b : α) (r : List α) : (x ++ a :: b :: r).drop (x.length + 2) = r := by
  rw [List.drop_append, List.drop_eq_nil_of_le (by omega), List.nil_append, show x.length + 2 - x.length = 2 by omega]
  rfl
theorem tk_step {n : Nat} {pre w r : List UInt8} {out : List S40} {t : S40} (h1 : fnd 123 pre = none) (h2 : pre.getLast? ≠ some 123) (h3 : (125 : UInt8) ∉ w) (h4 : tagM (ofL w) = some t) :
    tkM (n + 1) (pre ++ 123 :: 123 :: (w ++ 125 :: 125 :: r)) out = tkM n r ((if pre = [] then out else out ++ [txt pre]) ++ [t]) := by
  have hf := fnd_skip (w ++ 125 :: 125 :: r) h1 h2
  have hd := drop_app pre 123 123 (w ++ 125 :: 125 :: r)
  rw [tkM, if_neg (by simp), hf]
  simp only
  rw [hd, fnd_at r h3]
  simp only
  rw [List.take_left, h4]
  simp only
  rw [drop_app, List.take_left]
  have e : (if pre.length = 0 then out else out ++ [txt pre]) = if pre = [] then out else out ++ [txt pre] := by
    cases pre <;> rfl
  rw [e]
theorem rd_tok {l : List S40} {i : Nat} (h : i < l.length) : rd_T40 l (i : Int) = l[i] := by
  unfold rd_T40
  rw [Int.toNat_natCast, List.getD_eq_getElem?_getD, List.getElem?_eq_getElem h]; rfl
def wordM (l : List ByteArray) : ByteArray := ofL (Lib.join (l.map (·.data.toList)) [46])
theorem wordM_take {l : List ByteArray} {i : Nat} (h : i < l.length) : wordM (l.take (i + 1)) = (if i = 0 then wordM (l.take i) ++ l[i] else (wordM (l.take i) ++ (⟨#[46]⟩ : ByteArray)) ++ l[i]) := by
  have hj : ∀ (x : List UInt8) (r : List (List UInt8)) (y : List UInt8), Lib.join (x :: r ++ [y]) [46] = Lib.join (x :: r) [46] ++ 46 :: y := by
    intro x r
    induction r generalizing x with
    | nil => intro y; rw [List.cons_append, List.nil_append, join_two, Lib.join_one, Lib.join_one]
    | cons z r ih =>
      intro y
      have := ih z y
      rw [List.cons_append] at this
      rw [List.cons_append, List.cons_append, join_two, this, join_two]
      simp
  rw [List.take_succ_eq_append_getElem h]
  by_cases z : i = 0
  · subst z
    rw [if_pos rfl, List.take_zero, List.nil_append]
    unfold wordM
    rw [List.map_cons, List.map_nil, Lib.join_one, ofL_data]
    apply ByteArray.ext
    apply Array.ext'
    show _ = (_ ++ _ : ByteArray).data.toList
    rw [toL_append]
    simp [ofL_toL, Lib.join]
  · rw [if_neg z]
    cases l with
    | nil => simp at h
    | cons a l =>
      obtain ⟨j, rfl⟩ : ∃ j, i = j + 1 := ⟨i - 1, by omega⟩
      unfold wordM
      rw [List.take_succ_cons, List.map_append, List.map_cons, List.map_cons, List.map_nil, hj]
      apply ByteArray.ext
      apply Array.ext'
      show (ofL _).data.toList = ((_ ++ _ : ByteArray) ++ _ : ByteArray).data.toList
      rw [toL_append, toL_append, ofL_toL, ofL_toL]
      simp
theorem wordM_size {l : List ByteArray} : (wordM l).size ≤ (l.map fun x => x.size + 1).sum := by
  unfold wordM
  rw [ofL_size]
  cases l with
  | nil => simp [Lib.join]
  | cons x l =>
    rw [List.map_cons, Lib.join_length]
    have h : ∀ l : List ByteArray, (l.map fun x => x.size + 1).sum = Lib.lens (l.map (·.data.toList)) + l.length := by
      intro l
      induction l with
      | nil => rfl
      | cons y l ih =>
        simp only [List.map_cons, List.sum_cons, ih, Lib.lens, List.length_cons, ← size_toL]
        omega
    rw [h, List.map_cons, List.length_map]
    simp only [List.length_cons, List.length_nil]
    omega
end Go.Proofs.YtcblmfcgjemgkaaDoor.XS
set_option linter.unusedVariables false
set_option linter.unusedSimpArgs false
namespace Go.Proofs.YtcblmfcgjemgkaaDoor.XS
open Go.RowKit Go.Proofs.YtcblmfcgjemgkaaDoorW.PrintWords Go.Proofs.YtcblmfcgjemgkaaDoorW.PrintLast Go.Proofs.YtcblmfcgjemgkaaDoorW.PrintMore
theorem suffix_f (s : ByteArray) (hs : s.size < 4294967281) : strings_HasSuffix.f s ((⟨#[123, 123]⟩ : ByteArray).extract 0 1) = some (decide (s.data.toList.getLast? = some 123)) := by
  have e : ((⟨#[123, 123]⟩ : ByteArray).extract 0 1) = (⟨#[123]⟩ : ByteArray) := rfl
  unfold strings_HasSuffix.f stringslite_HasSuffix.f
  rw [e]
  have e1 : ((⟨#[123]⟩ : ByteArray).size : Int) = 1 := rfl
  rw [e1]
  by_cases c : s.size = 0
  · rw [if_neg (by omega)]
    have : s.data.toList = [] := List.eq_nil_of_length_eq_zero (by rw [← size_toL]; exact c)
    rw [this]
    rfl
  · have hw : wrap64 ((s.size : Int) - 1) = ((s.size - 1 : Nat) : Int) := by unfold wrap64; omega
    rw [hw, if_pos (by omega), if_pos (by omega), if_pos (by omega), Int.toNat_natCast, Option.bind_some, toList_data, toList_data, ext_ofL, ofL_toL]
    congr 1
    have hsz := size_toL s
    generalize s.data.toList = l at hsz ⊢
    have hl : l ≠ [] := by intro e; rw [e] at hsz; exact c hsz
    obtain ⟨L, b, rfl⟩ : ∃ L b, l = L ++ [b] := ⟨l.dropLast, l.getLast hl, (List.dropLast_concat_getLast hl).symm⟩
    have e3 : (⟨#[123]⟩ : ByteArray).data.toList = ([123] : List UInt8) := rfl
    have e4 : s.size - 1 = L.length := by rw [hsz]; simp
    have e5 : s.size - L.length = 1 := by rw [hsz]; simp
    rw [e4, e5, List.drop_left, e3, Bool.eq_iff_iff, beq_iff_eq, decide_eq_true_eq]
    simp
theorem contains_f {s : ByteArray} (hs : s.size < 4294967281) : strings_Contains.f s (⟨#[123, 123]⟩ : ByteArray) = some (!(fnd 123 s.data.toList).isNone) := by
  unfold strings_Contains.f
  rw [if_pos hs]
  have e : (⟨#[123, 123]⟩ : ByteArray).data.toList = [123, 123] := rfl
  unfold Lib.contains
  rw [e, index_two]
  cases fnd 123 s.data.toList with
  | none => rfl
  | some i => simp
theorem empty_iff (s : ByteArray) : s.toList = ([] : List UInt8) ↔ sc_empty s = true := sc_empty_iff s
theorem fine_j0 (t : S40) (next text : Bool) (h1 : t.f0 ≠ 1) (b : Bool) (hb : b = decide (t.f0 = 2 ∨ t.f0 = 3 ∨ t.f0 = 5)) : Ev (fun k => scan_fine.j0 k t.f0 b t.f0 t.f1 t.f2) (fineM t next text) := by
  unfold fineM
  rw [if_neg h1]
  by_cases c : t.f0 = 2 ∨ t.f0 = 3 ∨ t.f0 = 5
  · rw [decide_eq_true c] at hb
    subst hb
    rw [if_pos c]
    by_cases e : t.f1.toList = ([] : List UInt8)
    · rw [(empty_iff _).1 e, Bool.true_and]
      exact Ev.step (f := fun k => (scan_right.f k t.f2).bind fun t213 => some t213) (fun k => by rw [scan_fine.j0, if_pos rfl, if_pos e]) (Ev.bind (right_f _) (f := fun _ t213 => some t213) (Ev.now _))
    · have : sc_empty t.f1 = false := by rw [← Bool.not_eq_true, ← empty_iff]; exact e
      rw [this, Bool.false_and]
      exact Ev.step (f := fun _ => some false) (fun k => by rw [scan_fine.j0, if_pos rfl, if_neg e]) (Ev.now _)
  · rw [decide_eq_false c] at hb
    subst hb
    rw [if_neg c]
    have hlen : ((t.f2.length : Int) == 0) = decide (t.f2.length = 0) := by rw [Bool.eq_iff_iff, beq_iff_eq, decide_eq_true_eq]; omega
    by_cases d : t.f0 = 4 ∨ t.f0 = 6
    · rw [if_pos d]
      have hst : ∀ k, scan_fine.j0 (k + 1) t.f0 false t.f0 t.f1 t.f2 = if t.f1.toList = ([] : List UInt8) then some ((t.f2.length : Int) == 0) else some false := fun k => by
        rw [scan_fine.j0, if_neg (by decide)]
        rcases d with d | d <;> rw [d]
        · rw [if_pos rfl]
        · rw [if_neg (by decide), if_pos rfl]
      refine Ev.step hst ?_
      by_cases e : t.f1.toList = ([] : List UInt8)
      · rw [(empty_iff _).1 e, Bool.true_and, ← hlen]
        simp only [if_pos e]
        exact Ev.now _
      · have : sc_empty t.f1 = false := by rw [← Bool.not_eq_true, ← empty_iff]; exact e
        rw [this, Bool.false_and]
        simp only [if_neg e]
        exact Ev.now _
    · rw [if_neg d]
      exact Ev.step (f := fun _ => some false) (fun k => by rw [scan_fine.j0, if_neg (by decide), if_neg (fun x => d (Or.inl x)), if_neg (fun x => d (Or.inr x))]) (Ev.now _)
theorem fine_f (t : S40) (next text : Bool) (hs : t.f1.size < 4294967281) : Ev (fun k => scan_fine.f k t.f0 t.f1 t.f2 next text) (fineM t next text) := by
  by_cases h1 : t.f0 = 1
  · have hst : ∀ k, scan_fine.f k t.f0 t.f1 t.f2 next text = some (fineM t next text) := by
      intro k
      unfold scan_fine.f fineM
      rw [if_pos h1, if_pos h1]
      by_cases e : t.f1.toList = ([] : List UInt8)
      · rw [if_pos e, (empty_iff _).1 e]; rfl
      · have : sc_empty t.f1 = false := by rw [← Bool.not_eq_true, ← empty_iff]; exact e
        rw [if_neg e, this]
        by_cases l : t.f2.length = 0
        · rw [if_pos (by omega), decide_eq_true l, contains_f hs, Option.bind_some, suffix_f _ hs]
          cases (fnd 123 t.f1.data.toList).isNone <;> cases text <;> cases next <;> simp
        · rw [if_neg (by omega), decide_eq_false l]; rfl
    exact Ev.congr hst (Ev.now _)
  · have hb : ∀ n : Int, (t.f0 = n → n = 2 ∨ n = 3 ∨ n = 5) → True := fun _ _ => trivial
    by_cases c2 : t.f0 = 2
    · refine Ev.congr (f := fun k => scan_fine.j0 k t.f0 true t.f0 t.f1 t.f2) (fun k => ?_) (fine_j0 t next text h1 true (by simp [c2]))
      unfold scan_fine.f
      rw [if_neg h1, if_pos c2]
      have : (t.f0 == 2) = true := by rw [c2]; rfl
      rw [this]
    · by_cases c3 : t.f0 = 3
      · refine Ev.congr (f := fun k => scan_fine.j0 k t.f0 true t.f0 t.f1 t.f2) (fun k => ?_) (fine_j0 t next text h1 true (by simp [c3]))
        unfold scan_fine.f
        rw [if_neg h1, if_neg c2, if_pos c3]
        have : (t.f0 == 3) = true := by rw [c3]; rfl
        rw [this]
      · refine Ev.congr (f := fun k => scan_fine.j0 k t.f0 (t.f0 == 5) t.f0 t.f1 t.f2) (fun k => ?_) (fine_j0 t next text h1 _ (by rw [Bool.eq_iff_iff, beq_iff_eq, decide_eq_true_eq]; constructor; intro h; exact Or.inr (Or.inr h); rintro (h | h | h); exact absurd h c2; exact absurd h c3; exact h))
        unfold scan_fine.f
        rw [if_neg h1, if_neg c2, if_neg c3]
theorem check_drop {l : List S40} {i : Nat} (hi : i < l.length) : checkM (l.drop i) = (fineM l[i] (decide (i + 1 < l.length)) (if h : i + 1 < l.length then decide ((l[i + 1]).f0 = 1) else false) && checkM (l.drop (i + 1))) := by
  rw [List.drop_eq_getElem_cons hi]
  by_cases h : i + 1 < l.length
  · rw [dif_pos h, decide_eq_true h, List.drop_eq_getElem_cons h, checkM]
  · rw [dif_neg h, decide_eq_false h, List.drop_eq_nil_of_le (by omega), checkM, checkM, Bool.and_true]
theorem check_loop (l : List S40) (hl : l.length < 4611686018427387904) (hs : ∀ t ∈ l, t.f1.size < 4294967281) : ∀ (d i : Nat), i + d = l.length → Ev (fun k => scan_Check.l0 k l l (l.length : Int) (i : Int)) (if checkM (l.drop i) = true then 0 else 2)
  | 0, i, h => by
    rw [List.drop_eq_nil_of_le (by omega)]
    exact Ev.step (f := fun _ => some 0) (fun k => by rw [scan_Check.l0, if_neg (by omega)]) (Ev.now _)
  | d + 1, i, h => by
    have hi : i < l.length := by omega
    have hw := w_one (i := i) (by omega)
    have ih := check_loop l hl hs d (i + 1) (by omega)
    rw [check_drop hi]
    have hst : ∀ k, scan_Check.l0 (k + 1) l l (l.length : Int) (i : Int) = (scan_fine.f k (l[i]).f0 (l[i]).f1 (l[i]).f2 (decide (i + 1 < l.length)) (if h : i + 1 < l.length then decide ((l[i + 1]).f0 = 1) else false)).bind fun t => if t = true then scan_Check.l0 k l l (l.length : Int) ((i + 1 : Nat) : Int) else some 2 := fun k => by
      rw [scan_Check.l0, if_pos (by omega), if_pos (by omega), if_pos (by omega), hw, rd_tok hi]
      have e : decide (((i + 1 : Nat) : Int) < (l.length : Int)) = decide (i + 1 < l.length) := by rw [decide_eq_decide]; omega
      rw [e]
      by_cases h : i + 1 < l.length
      · rw [if_pos (by omega), if_pos (by omega), dif_pos h, rd_tok h]
        rfl
      · rw [if_neg (by omega), dif_neg h]
    refine Ev.step hst (Ev.bind (fine_f _ _ _ (hs _ (List.getElem_mem hi))) (f := fun k t => if t = true then scan_Check.l0 k l l (l.length : Int) ((i + 1 : Nat) : Int) else some 2) ?_)
    cases fineM l[i] (decide (i + 1 < l.length)) (if h : i + 1 < l.length then decide ((l[i + 1]).f0 = 1) else false) with
    | true => simp only [if_true, Bool.true_and]; exact ih
    | false => simp only [Bool.false_and, Bool.false_eq_true, if_false]; exact Ev.now _
theorem Check_f {l : List S40} (hl : l.length < 4611686018427387904) (hs : ∀ t ∈ l, t.f1.size < 4294967281) : Ev (fun k => scan_Check.f k l) (if checkM l = true then 0 else 2) := by
  unfold scan_Check.f
  exact check_loop l hl hs l.length 0 (by omega)
end Go.Proofs.YtcblmfcgjemgkaaDoor.XS
set_option linter.unusedVariables false
set_option linter.unusedSimpArgs false
namespace Go.Proofs.YtcblmfcgjemgkaaDoor.XS
open Go.RowKit Go.Proofs.YtcblmfcgjemgkaaDoorW.PrintWords Go.Proofs.YtcblmfcgjemgkaaDoorW.PrintLast Go.Proofs.YtcblmfcgjemgkaaDoorW.PrintMore
theorem texts_loop (l : List ByteArray) (hl : l.length < 4611686018427387904) : ∀ (d i : Nat), i + d = l.length → Ev (fun k => bellmanref01_SameTexts.l0 k l l (l.length : Int) (i : Int)) true
  | 0, i, h => Ev.step (f := fun _ => some true) (fun k => by rw [bellmanref01_SameTexts.l0, if_neg (by omega)]) (Ev.now _)
  | d + 1, i, h => Ev.step (f := fun k => bellmanref01_SameTexts.l0 k l l (l.length : Int) ((i + 1 : Nat) : Int)) (fun k => by rw [bellmanref01_SameTexts.l0, if_pos (by omega), if_pos (by omega), if_pos (by omega), if_pos (by omega), if_pos rfl, w_one (by omega)]) (texts_loop l hl d (i + 1) (by omega))
theorem texts_refl {l : List ByteArray} (hl : l.length < 4611686018427387904) : Ev (fun k => bellmanref01_SameTexts.f k l l) true := by
  unfold bellmanref01_SameTexts.f
  simp only [if_true]
  exact texts_loop l hl l.length 0 (by omega)
theorem toks_loop (l : List S40) (hl : l.length < 4611686018427387904) (hp : ∀ t ∈ l, t.f2.length < 4611686018427387904) : ∀ (d i : Nat), i + d = l.length → Ev (fun k => bellmanref10_Same.l0 k l l (l.length : Int) (i : Int)) true
  | 0, i, h => Ev.step (f := fun _ => some true) (fun k => by rw [bellmanref10_Same.l0, if_neg (by omega)]) (Ev.now _)
  | d + 1, i, h => by
    have hi : i < l.length := by omega
    refine Ev.step (f := fun k => (bellmanref01_SameTexts.f k (l[i]).f2 (l[i]).f2).bind fun t => if t = true then bellmanref10_Same.l0 k l l (l.length : Int) ((i + 1 : Nat) : Int) else some false) (fun k => ?_) ?_
    · rw [bellmanref10_Same.l0, if_pos (by omega), if_pos (by omega), if_pos (by omega), if_pos (by omega), if_pos rfl, if_pos rfl, w_one (by omega), rd_tok hi]
    · refine Ev.bind (texts_refl (hp _ (List.getElem_mem hi))) (f := fun k t => if t = true then bellmanref10_Same.l0 k l l (l.length : Int) ((i + 1 : Nat) : Int) else some false) ?_
      simp only [if_true]
      exact toks_loop l hl hp d (i + 1) (by omega)
theorem toks_refl {l : List S40} (hl : l.length < 4611686018427387904) (hp : ∀ t ∈ l, t.f2.length < 4611686018427387904) : Ev (fun k => bellmanref10_Same.f k l l) true := by
  unfold bellmanref10_Same.f
  simp only [if_true]
  exact toks_loop l hl hp l.length 0 (by omega)
end Go.Proofs.YtcblmfcgjemgkaaDoor.XS
set_option linter.unusedVariables false
set_option linter.unusedSimpArgs false
namespace Go.Proofs.YtcblmfcgjemgkaaDoor.XS
open Go.RowKit Go.Proofs.YtcblmfcgjemgkaaDoorW.PrintWords Go.Proofs.YtcblmfcgjemgkaaDoorW.PrintLast Go.Proofs.YtcblmfcgjemgkaaDoorW.PrintMore
theorem scan_lives_at : bellmanlaw10_lives.f 60 = some true := by decide +kernel
theorem scan_lives : Ev (fun k => bellmanlaw10_lives.f k) true := Ev.of (fun k => bellmanlaw10_lives.mono k) scan_lives_at
end Go.Proofs.YtcblmfcgjemgkaaDoor.XS
set_option linter.unusedVariables false
set_option linter.unusedSimpArgs false
namespace Go.Proofs.YtcblmfcgjemgkaaDoor.XS
open Go.RowKit Go.Proofs.YtcblmfcgjemgkaaDoorW.PrintWords Go.Proofs.YtcblmfcgjemgkaaDoorW.PrintLast Go.Proofs.YtcblmfcgjemgkaaDoorW.PrintMore
def wds (l : List UInt8) : List (List UInt8) := (spl 32 l).filter (fun p => !decide (p = []))
theorem wds_B (l : List UInt8) : (splB 32 (ofL l)).filter (fun x => !sc_empty x) = (wds l).map ofL := by
  rw [splB_ofL]
  unfold wds
  rw [List.filter_map]
  congr 1
  apply List.filter_congr
  intro x _
  simp only [Function.comp_apply, sc_empty_nil]
theorem wds_sp (n : Nat) (l : List UInt8) : wds (List.replicate n 32 ++ l) = wds l := by
  induction n with
  | zero => rfl
  | succ n ih =>
    rw [List.replicate_succ, List.cons_append, ← ih]
    unfold wds
    rw [spl, if_pos rfl, List.filter_cons, if_neg (by simp)]
theorem wds_word {w : List UInt8} (r : List UInt8) (hw : w ≠ []) (h : (32 : UInt8) ∉ w) : wds (w ++ 32 :: r) = w :: wds r := by
  unfold wds
  rw [spl_app r h, List.filter_cons, if_pos (by simp [hw])]
theorem wds_one {w : List UInt8} (hw : w ≠ []) (h : (32 : UInt8) ∉ w) : wds w = [w] := by
  unfold wds
  rw [spl_none h, List.filter_cons, if_pos (by simp [hw])]
  rfl
theorem wds_last {w : List UInt8} (n : Nat) (hw : w ≠ []) (h : (32 : UInt8) ∉ w) : wds (w ++ List.replicate n 32) = [w] := by
  cases n with
  | zero => rw [List.replicate_zero, List.append_nil, wds_one hw h]
  | succ n =>
    rw [List.replicate_succ, wds_word _ hw h]
    have := wds_sp n []
    rw [List.append_nil] at this
    rw [this]
    rfl
theorem ss_gap_eq (a : Int) : (ss_gap a).data.toList = List.replicate (a % 16).toNat 32 := by
  have h : (a % 16).toNat < 16 := by omega
  unfold ss_gap
  generalize (a % 16).toNat = n at h ⊢
  rw [ext_ofL, ofL_toL]
  have e : (⟨#[32, 32, 32, 32, 32, 32, 32, 32, 32, 32, 32, 32, 32, 32, 32, 32]⟩ : ByteArray).data.toList = List.replicate 16 32 := rfl
  rw [e, List.drop_zero, List.take_replicate]
  congr 1
  omega
theorem ss_word_eq (l : List ByteArray) : ∀ i, i ≤ l.length → ss_word l i = wordM (l.take i)
  | 0, _ => rfl
  | i + 1, h => by
    have hi : i < l.length := by omega
    have e : rdOf ByteArray.empty l (i : Int) = l[i] := by unfold rdOf; rw [Int.toNat_natCast, List.getD_eq_getElem?_getD, List.getElem?_eq_getElem hi]; rfl
    rw [ss_word, e, wordM_take hi, ss_word_eq l i (by omega)]
    by_cases z : i = 0
    · rw [if_neg (by omega), if_pos z]
    · rw [if_pos (by omega), if_neg z]
theorem ss_kind_cases (a : Int) : ss_kind a = 2 ∨ ss_kind a = 3 ∨ ss_kind a = 5 := by
  unfold ss_kind
  repeat' split
  all_goals simp
def ss_in (l : List ByteArray) (a1 a2 a3 a4 : Int) : List UInt8 :=
  List.replicate (a2 % 16).toNat 32 ++ ((if a1 % 3 = 0 then [] else if a1 % 3 = 1 then [105, 102] ++ 32 :: List.replicate (a3 % 16).toNat 32 else [101, 97, 99, 104] ++ 32 :: List.replicate (a3 % 16).toNat 32) ++ ((wordM l).data.toList ++ List.replicate (a4 % 16).toNat 32))
theorem ss_text_eq (l : List ByteArray) (a1 a2 a3 a4 : Int) : (ss_text l a1 a2 a3 a4).data.toList = 123 :: 123 :: (ss_in l a1 a2 a3 a4 ++ [125, 125]) := by
  unfold ss_text ss_head ss_in
  rw [toL_append, toL_append, toL_append, ss_word_eq l _ (Nat.le_refl _), List.take_length, ss_gap_eq]
  split
  · rw [toL_append, ss_gap_eq]; simp
  · split
    · rw [toL_append, toL_append, toL_append, ss_gap_eq, ss_gap_eq]; simp
    · rw [toL_append, toL_append, toL_append, ss_gap_eq, ss_gap_eq]; simp
theorem ss_facts {l : List ByteArray} (hr : rtM l = true) (a1 a2 a3 a4 : Int) : tagM (ofL (ss_in l a1 a2 a3 a4)) = some (ss_want l a1) ∧ (125 : UInt8) ∉ ss_in l a1 a2 a3 a4 := by
  have hb := path_bytes hr
  have hn := path_ne hr
  have hp := path_pth hr
  have ho := path_own hr
  have hwd : (wordM l).data.toList = Lib.join (l.map (·.data.toList)) [46] := ofL_toL _
  unfold ss_in ss_want ss_kind
  rw [hwd]
  generalize Lib.join (l.map (·.data.toList)) [46] = W at hb hn hp ho
  have h32 : (32 : UInt8) ∉ W := fun e => (hb 32 e).1 rfl
  have h125 : (125 : UInt8) ∉ W := fun e => (hb 125 e).2.1 rfl
  have hsp : ∀ n, (125 : UInt8) ∉ List.replicate n (32 : UInt8) := fun n e => by
    have := List.eq_of_mem_replicate e
    revert this; decide
  have hlast := wds_last (a4 % 16).toNat hn h32
  have htail : (125 : UInt8) ∉ W ++ List.replicate (a4 % 16).toNat 32 := fun e => (List.mem_append.mp e).elim h125 (hsp _)
  have hw3 : ownM (ofL [105, 102]) = 3 := by decide
  have hw5 : ownM (ofL [101, 97, 99, 104]) = 5 := by decide
  by_cases c0 : a1 % 3 = 0
  · rw [if_pos c0, if_pos c0, List.nil_append]
    refine ⟨?_, fun e => (List.mem_append.mp e).elim (hsp _) htail⟩
    unfold tagM
    rw [wds_B, wds_sp, hlast]
    simp only [List.map_cons, List.map_nil]
    rw [ho, hp]
    rfl
  · rw [if_neg c0, if_neg c0]
    by_cases c1 : a1 % 3 = 1
    · rw [if_pos c1, if_pos c1]
      refine ⟨?_, fun e => ?_⟩
      · unfold tagM
        rw [wds_B, wds_sp, List.append_assoc, show ∀ r x : List UInt8, (32 :: r) ++ x = 32 :: (r ++ x) from fun _ _ => rfl, wds_word (w := [105, 102]) _ (by simp) (by decide), wds_sp, hlast]
        simp only [List.map_cons, List.map_nil]
        rw [hw3, hp]
        rfl
      · rcases List.mem_append.mp e with e | e
        · exact hsp _ e
        · rcases List.mem_append.mp e with e | e
          · rcases List.mem_append.mp e with e | e
            · revert e; decide
            · rcases List.mem_cons.mp e with e | e
              · revert e; decide
              · exact hsp _ e
          · exact htail e
    · rw [if_neg c1, if_neg c1]
      refine ⟨?_, fun e => ?_⟩
      · unfold tagM
        rw [wds_B, wds_sp, List.append_assoc, show ∀ r x : List UInt8, (32 :: r) ++ x = 32 :: (r ++ x) from fun _ _ => rfl, wds_word (w := [101, 97, 99, 104]) _ (by simp) (by decide), wds_sp, hlast]
        simp only [List.map_cons, List.map_nil]
        rw [hw5, hp]
        rfl
      · rcases List.mem_append.mp e with e | e
        · exact hsp _ e
        · rcases List.mem_append.mp e with e | e
          · rcases List.mem_append.mp e with e | e
            · revert e; decide
            · rcases List.mem_cons.mp e with e | e
              · revert e; decide
              · exact hsp _ e
          · exact htail e
theorem path_len {l : List ByteArray} (h : rtM l = true) : (wordM l).size ≤ 132 := by
  obtain ⟨_, h2, _, h4⟩ := rtM_facts h
  have hs := wordM_size (l := l)
  have hb : ∀ l : List ByteArray, (∀ x ∈ l, nm x = true) → (l.map fun x => x.size + 1).sum ≤ 33 * l.length := by
    intro l
    induction l with
    | nil => intro _; simp
    | cons x l ih =>
      intro h
      have h1 := (nm_facts (h x (List.mem_cons_self ..))).2.1
      have h2 := ih (fun y hy => h y (List.mem_cons_of_mem _ hy))
      rw [List.map_cons, List.sum_cons, List.length_cons]
      omega
  have := hb l h4
  omega
theorem ss_tokens {l : List ByteArray} (hr : rtM l = true) (a1 a2 a3 a4 : Int) : tokensM (ss_text l a1 a2 a3 a4) = ([ss_want l a1], 0) := by
  obtain ⟨h1, h2⟩ := ss_facts hr a1 a2 a3 a4
  have hlen : (ss_in l a1 a2 a3 a4).length ≤ 300 := by
    have hp := path_len hr
    rw [size_toL] at hp
    have e2 : (a2 % 16).toNat ≤ 15 := by omega
    have e3 : (a3 % 16).toNat ≤ 15 := by omega
    have e4 : (a4 % 16).toNat ≤ 15 := by omega
    unfold ss_in
    rw [List.length_append, List.length_append, List.length_append, List.length_replicate, List.length_replicate]
    split
    · simp only [List.length_nil]; omega
    · split <;> simp only [List.length_append, List.length_cons, List.length_nil, List.length_replicate] <;> omega
  have hz : (ss_text l a1 a2 a3 a4).size ≤ 1024 := by
    rw [size_toL, ss_text_eq]
    simp only [List.length_cons, List.length_append, List.length_nil]
    omega
  unfold tokensM
  rw [if_neg (by omega), ss_text_eq]
  obtain ⟨n, hn⟩ : ∃ n, (ss_text l a1 a2 a3 a4).size = n + 1 := ⟨(ss_text l a1 a2 a3 a4).size - 1, by
    rw [size_toL, ss_text_eq]; simp only [List.length_cons]; omega⟩
  rw [hn]
  have := tk_step (n := n + 1) (pre := []) (w := ss_in l a1 a2 a3 a4) (r := []) (out := []) (t := ss_want l a1) rfl (by simp) h2 h1
  have e : ([] : List UInt8) ++ 123 :: 123 :: (ss_in l a1 a2 a3 a4 ++ 125 :: 125 :: []) = 123 :: 123 :: (ss_in l a1 a2 a3 a4 ++ [125, 125]) := rfl
  rw [e] at this
  rw [this, if_pos rfl, List.nil_append, tkM, if_pos rfl]
theorem pure_ScanSpaces : bellmanlaw10_ScanSpaces.PureU := by
  intro l a1 a2 a3 a4 _ w1 w2 w3 w4 hb
  refine Ev.rounds ?_
  unfold bellmanlaw10_ScanSpaces.f
  refine Ev.bind scan_lives (f := fun k t => _) ?_
  have hu : ∀ a : Int, (Lit.int .u8 a).wf = true → ss_u8 a := by
    intro a h
    have h2 : 0 ≤ a ∧ a ≤ 255 := by simpa [Lit.wf, IntKind.min, IntKind.max, IntKind.signed, IntKind.bits] using h
    exact ⟨h2.1, by omega⟩
  have hsm : ss_small l := by unfold ss_small; omega
  simp only [if_true]
  simp only [if_pos (show (ss_u8 a1 ∧ ss_u8 a2) ∧ (ss_u8 a3 ∧ ss_u8 a4) ∧ ss_small l from ⟨⟨hu _ w1, hu _ w2⟩, ⟨hu _ w3, hu _ w4⟩, hsm⟩)]
  refine Ev.bind (Check_f (l := [ss_want l a1]) (show 1 < 4611686018427387904 by decide) (fun t ht => by
    rw [List.mem_singleton] at ht; subst ht; exact (by decide : (⟨#[]⟩ : ByteArray).size < 4294967281))) (f := fun k c => _) ?_
  have hchk : checkM [ss_want l a1] = rtM l := by
    show fineM (ss_want l a1) false false = _
    unfold fineM ss_want
    simp only
    have hk := ss_kind_cases a1
    rw [if_neg (by rcases hk with h | h | h <;> rw [h] <;> decide), if_pos hk]
    rfl
  rw [hchk]
  by_cases c : rtM l = true
  · rw [if_pos c]
    simp only [if_true]
    have hT := Tokens_f (ss_text l a1 a2 a3 a4)
    rw [ss_tokens c] at hT
    refine Ev.bind hT (f := fun k p => _) ?_
    simp only [if_true]
    refine toks_refl (show 1 < 4611686018427387904 by decide) (fun t ht => ?_)
    rw [List.mem_singleton] at ht
    subst ht
    have := (rtM_facts c).2.1
    show l.length < _
    omega
  · rw [if_neg c]
    exact Ev.now _
end Go.Proofs.YtcblmfcgjemgkaaDoor.XS
namespace Go.Proofs.YtcblmfcgjemgkaaDoor.Pure
theorem ScanSpaces : XS.bellmanlaw10_ScanSpaces.PureU := XS.pure_ScanSpaces
end Go.Proofs.YtcblmfcgjemgkaaDoor.Pure
set_option linter.unusedVariables false
set_option linter.unusedSimpArgs false
namespace Go.Proofs.YtcblmfcgjemgkaaDoor.Dec
open Go.RowKit Go.Proofs.YtcblmfcgjemgkaaDoorW.PrintWords Go.ChangeShapes Go.WideShapes Go.Deep
section
variable {H : Type}
variable {enc : TypeId × Value → H} {P : Program} {w : World} {base : Nat} {spare : Nat → Bool} {held : Bool}
def D {α : Type} (enc : TypeId × Value → H) (P : Program) (w : World) (base : Nat) (spare : Nat → Bool) (held : Bool) (t : TypeId) (kd : Kd α) (wf : α → Prop) (bk : α → Nat) : Prop :=
  ∀ (fuel : Nat) (cs : List Value) (x : DataW H × List MemPlace), DataW.trod enc P w base spare held fuel t cs = some x → ∃ a, kd.K w a cs ∧ wf a ∧ bk a ≤ Rows.uptoBulk x.1
theorem D_string {t : TypeId} (ht : P.underlying t = some .string) : D enc P w base spare held t Kd.string (fun _ => True) (fun s => s.size + 1) := by
  intro fuel cs x h
  obtain ⟨s, hc, hx, _⟩ := DataW.trod_string ht h
  refine ⟨s, hc, trivial, ?_⟩
  rw [hx]
  simp [Rows.uptoBulk]
theorem list_of {α : Type} {p : Nat → α → Prop} : ∀ (n : Nat), (∀ i, i < n → ∃ a, p i a) → ∃ l : List α, l.length = n ∧ ∀ i a, l[i]? = some a → p i a
  | 0, _ => ⟨[], rfl, fun i a h => by simp at h⟩
  | n + 1, h => by
    obtain ⟨l, hl, hp⟩ := list_of n (fun i hi => h i (by omega))
    obtain ⟨a, ha⟩ := h n (by omega)
    refine ⟨l ++ [a], by simp [hl], fun i b hb => ?_⟩
    rw [List.getElem?_append] at hb
    split at hb
    · exact hp i b hb
    · have hi : i - l.length = 0 := by
        rcases Nat.eq_zero_or_pos (i - l.length) with h0 | h0
        · exact h0
        · rw [List.getElem?_eq_none (by simp; omega)] at hb; cases hb
      rw [hi] at hb
      injection hb with hb
      subst hb
      have : i = n := by omega
      subst this; exact ha
theorem bulk_sum {α : Type} {bk : α → Nat} : ∀ (l : List α) (Dx : Nat → DataW H), (∀ i a, l[i]? = some a → bk a ≤ Rows.uptoBulk (Dx i)) → (l.map bk).sum ≤ Rows.uptoBulkAll ((List.range l.length).map Dx)
  | [], _, _ => by simp
  | a :: l, Dx, h => by
    have h0 := h 0 a rfl
    have h1 := bulk_sum l (fun i => Dx (i + 1)) (fun i b hb => h (i + 1) b (by simpa using hb))
    rw [List.length_cons, List.range_succ_eq_map]
    simp only [List.map_cons, List.sum_cons, Rows.uptoBulkAll, List.map_map]
    have e : (List.map (fun i => Dx (i + 1)) (List.range l.length)) = List.map (Dx ∘ Nat.succ) (List.range l.length) := rfl
    rw [e] at h1
    omega
theorem D_slice {α : Type} {kd : Kd α} {wf : α → Prop} {bk : α → Nat} {t e : TypeId} (ht : P.underlying t = some (.slice e)) (hc : P.cellsOf e = kd.sz) (h : D enc P w base spare held e kd wf bk) :
    D enc P w base spare held t (Kd.slice e kd) (fun l => ∀ a ∈ l, wf a) (fun l => (l.map bk).sum + 1) := by
  intro fuel cs x hx
  rcases open_slice ht hx with ⟨rfl, rfl⟩ | ⟨a, len, cap, m, n, Dx, Pl, rfl, hb, hl, hm, hmm, rfl, he⟩
  · refine ⟨([] : List α), ⟨none, 0, rfl, Nat.le_refl _, rfl, Nat.zero_le _, fun h0 => absurd h0 (Nat.lt_irrefl 0)⟩, ⟨?_, ?_⟩⟩
    · intro a ha
      exact absurd ha (by simp)
    · simp [Rows.uptoBulk]
  · have hlm : len ≤ m := by rw [hmm]; split <;> omega
    obtain ⟨l, hll, hp⟩ := list_of (p := fun i y => wf y ∧ bk y ≤ Rows.uptoBulk (Dx i) ∧ ∃ c, c.length = kd.sz ∧ kd.K w y c ∧ ∀ j u, c[j]? = some u → w.cell? (a.add (i * kd.sz + j)) = some u) len (fun i hi => by
      obtain ⟨cs', h1, h2⟩ := he i (by omega)
      obtain ⟨y, hk, hw, hbk⟩ := h n cs' _ h2
      obtain ⟨_, hlen, hcell⟩ := World.cells?_some h1
      refine ⟨y, hw, hbk, cs', by rw [hlen, hc], hk, fun j u hu => ?_⟩
      have hj : j < cs'.length := (List.getElem?_eq_some_iff.1 hu).1
      have h3 := hcell j (by omega)
      rw [Go.Deep.add_add] at h3
      rw [← hc, h3, hu])
    have hmax : maxLen ≤ 9223372036854775807 := by decide
    refine ⟨l, ⟨some a, cap, by rw [hll], by omega, rfl, by omega, fun h0 => ⟨a, rfl, fun j p hj => ?_⟩⟩, fun y hy => ?_, ?_⟩
    · obtain ⟨_, _, c, hcl, hk, hcell⟩ := hp j p hj
      exact ⟨c, hcl, hk, hcell⟩
    · obtain ⟨i, hi, rfl⟩ := List.getElem_of_mem hy
      exact (hp i _ (List.getElem?_eq_getElem hi)).1
    · have hs := bulk_sum l Dx (fun i y hy => (hp i y hy).2.1)
      rw [hll] at hs
      simp only [Rows.uptoBulk]
      omega
end
section
variable {H : Type} {enc : TypeId × Value → H} {P : Program} {w : World} {base : Nat} {spare : Nat → Bool} {held : Bool}
end
section
variable {H : Type} {enc : TypeId × Value → H} {P : Program} {w : World} {base : Nat} {spare : Nat → Bool} {held : Bool}
theorem arg_slice {α : Type} {kd : Kd α} {wf' : List α → Prop} {bk' : List α → Nat} {t e : TypeId} {r : Reach} {b0 : Nat} {v : Value} {d : DataW H} {ps : List MemPlace} (ht : P.underlying t = some (.slice e)) (hd : D enc P w base spare held t (Kd.slice e kd) wf' bk')
    (hval : Value.okWide P w r b0 t v) (h : DataW.Trod enc P w base spare held t v d ps) : ∃ (A : Option Addr) (c : Nat) (l : List α), v = .slice A l.length c ∧ l.length ≤ c ∧ kd.C w A l.length l ∧ wf' l ∧ bk' l ≤ Rows.uptoBulk d := by
  obtain ⟨a, len, cap, rfl⟩ := okWide_slice ht hval
  obtain ⟨fuel, hf⟩ := h
  obtain ⟨l, ⟨A, c, hcs, hlc, hC⟩, hw, hb⟩ := hd fuel _ _ hf
  simp [Value.cells] at hcs
  obtain ⟨rfl, rfl, rfl⟩ := hcs
  exact ⟨_, _, l, rfl, hlc, hC, hw, hb⟩
end
end Go.Proofs.YtcblmfcgjemgkaaDoor.Dec
