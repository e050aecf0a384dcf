/- For every list of texts, list of numbers and bytes within the bound: lists that are framed, one behind the other, are told next as they were; the sum of all is that in pieces. -/
import Derived.Test.YtddjklpkhdhfkaaUTopFramed
import Derived.Test.YtddjklpkhdhfkaaQListG
import Derived.Test.YtddjklpkhdhfkaaQSumG
set_option linter.unusedVariables false
set_option linter.unusedSimpArgs false
namespace Go.Proofs.Ytddjklpkhdhfkaa.XT
open Go.RowKit Go.Proofs.YtddjklpkhdhfkaaW.PrintWords Go.Proofs.YtddjklpkhdhfkaaW.PrintLast Go.Proofs.YtddjklpkhdhfkaaW.PrintMore Go.Proofs.Ytddjklpkhdhfkaa.Wire Go.Proofs.Ytddjklpkhdhfkaa.Sum
theorem begins_ok : bellmantop_begins.f = some true := by decide +kernel
theorem frame_len (s : List UInt8) (h : s.length ≤ 32768) : (frameL s).length ≤ 32768 + 20 := by
  have h8 := dig_len8 (n := (s.length : Int)) ⟨by omega, by omega⟩
  unfold frameL
  rw [List.length_append, List.length_append, numL_length]
  have : (fourL (crc 0 s)).length = 4 := rfl
  omega
theorem toptexts_l0 (l : List ByteArray) (hl : l.length ≤ 1000000) : ∀ (m k i : Nat), i + m = l.length → m + 1 ≤ k → bellmantop_texts.l0 k l l (l.length : Int) (i : Int) = some true
  | 0, k, i, h, hk => by
    obtain ⟨k, rfl⟩ : ∃ m, k = m + 1 := ⟨k - 1, by omega⟩
    rw [bellmantop_texts.l0, if_neg (by omega)]
  | m + 1, k, i, h, hk => by
    obtain ⟨k, rfl⟩ : ∃ m, k = m + 1 := ⟨k - 1, by omega⟩
    rw [bellmantop_texts.l0, if_pos (by omega), if_pos (by omega), if_pos (by omega), if_pos (by omega), if_pos rfl, wrap_i i (by omega)]
    exact toptexts_l0 l hl m k (i + 1) (by omega) (by omega)
theorem framed_l0 (l : List Int) (hl : l.length ≤ 1000000) (f g : List UInt8) (more : ByteArray) (hf : f.length ≤ 1000000) (hg : g.length ≤ 1000000) (hm : more.size ≤ 1048576) : ∀ (m k i : Nat), i + m = l.length → m + 1 ≤ k → bellmantop_TopFramed.l0 k l more (B f) (B g) l (l.length : Int) (i : Int) = some true
  | 0, k, i, h, hk => by
    obtain ⟨k, rfl⟩ : ∃ m, k = m + 1 := ⟨k - 1, by omega⟩
    have hm' := data_size more
    have e : (List.map (fun s : ByteArray => s.data.toList) [B f, B g, more]).flatten = f ++ (g ++ more.data.toList) := by simp [B_toList]
    have e2 : (B g ++ more).data.toList = g ++ more.data.toList := by
      conv => lhs; rw [← B_data more, B_append, B_toList]
    have e3 : (B g ++ more).size ≤ 9223372036854775806 := by
      rw [data_size, e2, List.length_append]; omega
    rw [bellmantop_TopFramed.l0, if_neg (by omega), fold_of _ (by intro s hs; simp only [List.mem_cons, List.not_mem_nil, or_false] at hs; rcases hs with rfl | rfl | rfl <;> first | (rw [B_size]; omega) | omega), Option.bind_some, of_eq _ (by rw [B_size]; omega), Option.bind_some, if_pos (by rw [B_size]; omega),
      on_eq _ _ e3, Option.bind_some, e, e2, B_toList, crc_append 0 f, beq_self_eq_true]
  | m + 1, k, i, h, hk => by
    obtain ⟨k, rfl⟩ : ∃ m, k = m + 1 := ⟨k - 1, by omega⟩
    rw [bellmantop_TopFramed.l0, if_pos (by omega), if_pos (by omega), if_pos (by omega), if_pos (by omega), if_pos rfl, wrap_i i (by omega)]
    exact framed_l0 l hl f g more hf hg hm m k (i + 1) (by omega) (by omega)
theorem j0_true (k : Nat) (a : List ByteArray) (b : List Int) (m f g : ByteArray) : bellmantop_TopFramed.j0 (k + 1) a b m f g true = some true := by
  rw [bellmantop_TopFramed.j0, if_pos rfl]
theorem pure_TopFramed : bellmantop_TopFramed.PureU := by
  intro a b more _ hb hs
  have hf : ∀ x ∈ b, Fits x := fun x hx => fits_of_wf (hb x hx)
  have hm : more.size ≤ 1048576 := by omega
  have hm' := data_size more
  refine ⟨3000, ?_⟩
  unfold bellmantop_TopFramed.f
  rw [begins_ok, Option.bind_some, if_pos rfl, texts_eq a 3000 (by omega), nums_eq b hf 3000 (by omega)]
  by_cases ca : a.length ≤ 1024 ∧ allT a = true
  · rw [if_pos ca, Option.bind_some]
    by_cases cb : b.length ≤ 1024
    · rw [if_pos cb, Option.bind_some, frame_eq, frame_eq]
      by_cases cs : (listL encT a).length ≤ 32768
      · rw [if_pos cs, Option.bind_some]
        by_cases ct : (listL numL b).length ≤ 32768
        · rw [if_pos ct, Option.bind_some]
          simp only
          rw [if_pos True.intro, if_pos True.intro, if_pos True.intro, show ((0 : Int) != 0) = false from rfl]
          have l1 := frame_len _ cs
          have l2 := frame_len _ ct
          have et : getListL decT (listL encT a) = (a, [], 0) := by
            have := getListL_enc (enc := encT) (dec := decT) (ok := okT) decT_enc a [] ca.1 (allT_ok a ca.2)
            rwa [List.append_nil] at this
          have en : getListL getL (listL numL b) = (b, [], 0) := by
            have := getListL_enc (enc := numL) (dec := getL) (ok := Fits) getL_enc b [] cb hf
            rwa [List.append_nil] at this
          have e1 : B (frameL (listL encT a)) ++ B (frameL (listL numL b)) ++ more = B (frameL (listL encT a) ++ (frameL (listL numL b) ++ more.data.toList)) := by
            conv => lhs; rw [← B_data more, B_append, B_append, List.append_assoc]
          rw [bellmantop_TopFramed.j0, if_neg (by decide), B_size, B_size, if_pos (by omega), B_append, B_size, List.length_append, if_pos (by omega), ← B_append, e1,
            next_eq _ (by rw [B_size, List.length_append, List.length_append]; omega), B_toList, nextL_frame _ _ cs, Option.bind_some,
            next_eq _ (by rw [B_size, List.length_append]; omega), B_toList, nextL_frame _ _ ct, Option.bind_some, get_texts_eq _ 2999 (by omega), B_toList, et, Option.bind_some, get_nums_eq _ 2999 (by omega), B_toList, en, Option.bind_some]
          simp only
          rw [if_pos True.intro, if_pos True.intro, if_pos True.intro, if_pos True.intro]
          have n0 : (B []).toList = ([] : List UInt8) := B_tl []
          rw [n0, if_pos rfl, if_pos rfl, B_data, if_pos rfl]
          unfold bellmantop_texts.f
          rw [if_pos rfl]
          have hl0 := toptexts_l0 a (by omega) a.length 2999 0 (by omega) (by omega)
          replace hl0 : bellmantop_texts.l0 2999 a a (a.length : Int) 0 = some true := hl0
          rw [hl0, Option.bind_some, if_pos rfl, show ((b.length : Int) != (b.length : Int)) = false from bne_self_eq_false _, bellmantop_TopFramed.j1, if_neg (by decide)]
          exact framed_l0 b (by omega) _ _ more (by omega) (by omega) hm b.length 2998 0 (by omega) (by omega)
        · rw [if_neg ct, Option.bind_some]
          simp only
          rw [if_pos True.intro, if_pos True.intro, if_pos True.intro, show ((12 : Int) != 0) = true from rfl]
          exact j0_true _ _ _ _ _ _
      · rw [if_neg cs, Option.bind_some]
        simp only
        split <;> (rw [Option.bind_some]; simp only; rw [if_pos True.intro, if_pos True.intro, if_neg (by decide)]; exact j0_true _ _ _ _ _ _)
    · rw [if_neg cb, Option.bind_some, frame_eq, frame_eq]
      simp only
      split <;> split <;> (rw [Option.bind_some, Option.bind_some]; simp only; rw [if_pos True.intro, if_neg (by decide)]; exact j0_true _ _ _ _ _ _)
  · rw [if_neg ca, Option.bind_some]
    by_cases cb : b.length ≤ 1024
    · rw [if_pos cb, Option.bind_some, frame_eq, frame_eq]
      simp only
      split <;> split <;> (rw [Option.bind_some, Option.bind_some]; simp only; rw [if_neg (by decide)]; exact j0_true _ _ _ _ _ _)
    · rw [if_neg cb, Option.bind_some, frame_eq]
      simp only
      split <;> (rw [Option.bind_some, Option.bind_some]; simp only; rw [if_neg (by decide)]; exact j0_true _ _ _ _ _ _)
end Go.Proofs.Ytddjklpkhdhfkaa.XT
namespace Go.Proofs.Ytddjklpkhdhfkaa.Pure
theorem TopFramed : XT.bellmantop_TopFramed.PureU := XT.pure_TopFramed
end Go.Proofs.Ytddjklpkhdhfkaa.Pure
