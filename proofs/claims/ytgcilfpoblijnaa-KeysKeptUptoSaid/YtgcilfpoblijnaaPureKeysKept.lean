/- For every list of keys, name, reply and list of names within the bound: what is put is found, until 32 others were put; there are never more than that, and they stay right. -/
import Derived.Test.YtgcilfpoblijnaaUKeysKept
import Derived.Test.YtgcilfpoblijnaaQKeysLives
set_option linter.unusedVariables false
set_option linter.unusedSimpArgs false
namespace Go.Proofs.Ytgcilfpoblijnaa.XK
open Go.RowKit Go.Proofs.YtgcilfpoblijnaaW.PrintWords Go.Proofs.YtgcilfpoblijnaaW.PrintLast Go.Proofs.YtgcilfpoblijnaaW.PrintMore Go.Proofs.Ytgcilfpoblijnaa.Wire
theorem findK_mem : ∀ (l : List S91) (x : S91), (l.map nm).Nodup → x ∈ l → findK (nm x) l = (x.f1, 0)
  | [], _, _, h => by simp at h
  | a :: l, x, hd, h => by
    rw [List.map_cons, List.nodup_cons] at hd
    rcases List.mem_cons.mp h with rfl | h
    · simp [findK]
    · have hne : nm a ≠ nm x := fun e => hd.1 (e ▸ List.mem_map.mpr ⟨x, h, rfl⟩)
      rw [findK, if_neg hne]
      exact findK_mem l x hd.2 h
theorem findK_none (name : List UInt8) : ∀ (l : List S91), name ∉ l.map nm → findK name l = (0, 3)
  | [], _ => rfl
  | a :: l, h => by
    rw [List.map_cons, List.mem_cons] at h
    rw [findK, if_neg (fun e => h (.inl e.symm))]
    exact findK_none name l (fun h' => h (.inr h'))
theorem okL_snoc (l : List S91) (x : S91) (h : okL l) (hn : nameOk (nm x) = true) (hx : nm x ∉ l.map nm) (h31 : l.length < 32) : okL (l ++ [x]) := by
  refine ⟨by rw [List.length_append]; simp; omega, fun y hy => ?_, ?_⟩
  · rcases List.mem_append.mp hy with hy | hy
    · exact h.2.1 y hy
    · rw [List.mem_singleton] at hy; rw [hy]; exact hn
  · rw [List.map_append, List.nodup_append]
    refine ⟨h.2.2, by simp, fun a ha b hb => ?_⟩
    simp at hb
    subst hb
    intro e
    exact hx (e ▸ ha)
theorem okL_drop (l : List S91) (h : okL l) : okL (l.drop 1) := by
  refine ⟨by rw [List.length_drop]; have := h.1; omega, fun y hy => h.2.1 y (List.mem_of_mem_drop hy), ?_⟩
  rw [List.map_drop]
  exact h.2.2.sublist (List.drop_sublist _ _)
theorem put_cases (l : List S91) (name : ByteArray) (reply : Int) (h : okL l) :
    (putL l name reply = ((if l.length = 32 then l.drop 1 else l) ++ [⟨name, reply⟩], 0) ∧ okL ((if l.length = 32 then l.drop 1 else l) ++ [⟨name, reply⟩]) ∧ name.data.toList ∉ l.map nm) ∨ ∃ e, e ≠ 0 ∧ putL l name reply = (l, e) := by
  unfold putL
  rw [if_pos h]
  by_cases c1 : nameOk name.data.toList = true
  · rw [if_pos c1]
    by_cases c2 : name.data.toList ∈ l.map nm
    · rw [if_pos c2]; exact .inr ⟨4, by decide, rfl⟩
    · rw [if_neg c2]
      refine .inl ⟨?_, ?_, c2⟩
      · split <;> rfl
      · split
        · rename_i h32
          refine okL_snoc _ _ (okL_drop l h) c1 (fun hm => c2 ?_) (by rw [List.length_drop]; omega)
          rw [List.map_drop] at hm
          exact List.mem_of_mem_drop hm
        · rename_i h32
          exact okL_snoc _ _ h c1 c2 (by have := h.1; omega)
  · rw [if_neg c1]; exact .inr ⟨13, by decide, rfl⟩
/-- What is kept of the one that was put: while fewer than 32 others were put, it is there, with just those behind it. -/
def kept (x : S91) (m : List S91) (put : Nat) : Prop := put < 32 → ∃ pre post, m = pre ++ x :: post ∧ post.length = put
theorem kept_snoc (x y : S91) (m : List S91) (put : Nat) (h32 : m.length ≤ 32) (h : kept x m put) : kept x ((if m.length = 32 then m.drop 1 else m) ++ [y]) (put + 1) := by
  intro hp
  obtain ⟨pre, post, e, hl⟩ := h (by omega)
  by_cases c : m.length = 32
  · rw [if_pos c]
    have hz := congrArg List.length e
    rw [List.length_append, List.length_cons] at hz
    match pre, e with
    | [], e => simp at hz; omega
    | p :: pre, e =>
      refine ⟨pre, post ++ [y], ?_, by simp [hl]⟩
      rw [e]; simp
  · rw [if_neg c]
    refine ⟨pre, post ++ [y], ?_, by simp [hl]⟩
    rw [e]; simp
theorem kept_find (x : S91) (m : List S91) (put : Nat) (ok : okL m) (h : kept x m put) (hp : put < 32) : findK (nm x) m = (x.f1, 0) := by
  obtain ⟨pre, post, e, hl⟩ := h hp
  exact findK_mem m x ok.2.2 (by rw [e]; simp)
theorem gone_find (x y : S91) (m : List S91) (ok : okL m) (h : kept x m 31) (hne : nm y ≠ nm x) : findK (nm x) ((if m.length = 32 then m.drop 1 else m) ++ [y]) = (0, 3) := by
  obtain ⟨pre, post, e, hl⟩ := h (by omega)
  have hz := congrArg List.length e
  rw [List.length_append, List.length_cons] at hz
  have h32 := ok.1
  have hpre : pre = [] := List.length_eq_zero_iff.mp (by omega)
  rw [hpre, List.nil_append] at e
  rw [if_pos (by rw [e, List.length_cons]; omega)]
  refine findK_none _ _ ?_
  have hd := ok.2.2
  rw [e, List.map_cons, List.nodup_cons] at hd
  rw [e, List.map_append, List.mem_append]
  simp only [List.drop_succ_cons, List.drop_zero, List.map_cons, List.map_nil, List.mem_singleton]
  rintro (h' | h')
  · exact hd.1 h'
  · exact hne h'.symm
theorem kept_j1 (x : S91) (l3 : List ByteArray) (i : Nat) (s : ByteArray) (n : List S91) (put : Nat) (why : Int) (k : Nat) (hk : 100 ≤ k) (ok : okL n) (h1 : put < 32 → findK (nm x) n = (x.f1, 0)) (h2 : put = 32 → why = 0 → s.data.toList ≠ nm x → (findK (nm x) n).2 ≠ 0)
    (hi : i < 1000000) (hc : bellmanlaw28_KeysKept.l0 k x.f0 x.f1 n (put : Int) l3 (l3.length : Int) ((i + 1 : Nat) : Int) = some true) :
    bellmanlaw28_KeysKept.j1 (k + 2) x.f0 x.f1 (put : Int) s n why l3 (l3.length : Int) (i : Int) = some true := by
  have h32 := ok.1
  have hf := find_eq n x.f0 (k + 1) (by omega)
  rw [if_pos ok] at hf
  have h2' : (put : Int) = 32 → why = 0 → ¬ s.toList = x.f0.toList → (findK (nm x) n).2 ≠ 0 := fun a b c => h2 (by omega) b (fun e => c ((tl_iff _ _).mpr e))
  have j2 : bellmanlaw28_KeysKept.j2 (k + 1) x.f0 x.f1 n (put : Int) s why (findK (nm x) n).2 l3 (l3.length : Int) (i : Int) false = some true := by
    rw [bellmanlaw28_KeysKept.j2, if_neg (by decide), wrap_j i (by omega), hc]
    by_cases a : (put : Int) = 32
    · rw [if_pos a]
      by_cases b : why = 0
      · rw [if_pos b]
        by_cases c : s.toList = x.f0.toList
        · rw [if_pos c]
        · rw [if_neg c, if_neg (h2' a b c)]
      · rw [if_neg b]
    · rw [if_neg a]
  have hck : ((if okL n then (0 : Int) else 2) != 0) = false := by rw [if_pos ok]; rfl
  rw [bellmanlaw28_KeysKept.j1, hf, Option.bind_some]
  have e : x.f0.data.toList = nm x := rfl
  rw [e, if_neg (show ¬ (n.length : Int) > 32 by omega), check_eq n (k + 1) (by omega), Option.bind_some, hck, j2]
  by_cases a : (put : Int) < 32
  · have h1' := h1 (by omega)
    rw [if_pos a, if_pos (by rw [h1']), if_pos (by rw [h1'])]
  · rw [if_neg a]
theorem kept_l0 (x : S91) (l3 : List ByteArray) : ∀ (m k i : Nat) (n : List S91) (put : Nat), i + m = 60 → 3 * m + 200 ≤ k → okL n → kept x n put → put ≤ i → bellmanlaw28_KeysKept.l0 k x.f0 x.f1 n (put : Int) l3 (l3.length : Int) (i : Int) = some true
  | 0, k, i, n, put, h, hk, ok, hkp, hpi => by
    obtain ⟨k, rfl⟩ : ∃ m, k = m + 1 := ⟨k - 1, by omega⟩
    rw [bellmanlaw28_KeysKept.l0]
    by_cases c : (i : Int) < (l3.length : Int)
    · rw [if_pos c, if_pos (by omega), if_pos c, if_pos (by omega)]
    · rw [if_neg c]
  | m + 1, k, i, n, put, h, hk, ok, hkp, hpi => by
    obtain ⟨k, rfl⟩ : ∃ m, k = m + 3 := ⟨k - 3, by omega⟩
    rw [bellmanlaw28_KeysKept.l0]
    by_cases c : (i : Int) < (l3.length : Int)
    · rw [if_pos c, if_pos (by omega), if_pos c, if_neg (by omega)]
      generalize rdOf ByteArray.empty l3 (i : Int) = s
      rw [put_eq n s (i : Int) (k + 2) (by omega), Option.bind_some]
      rcases put_cases n s (i : Int) ok with ⟨e, ok', hs⟩ | ⟨e, he, hq⟩
      · rw [e]
        simp only
        rw [if_pos True.intro]
        have hw : wrap64 ((put : Int) + 1) = ((put + 1 : Nat) : Int) := wrap_j put (by omega)
        rw [hw]
        have hk' := kept_snoc x ⟨s, (i : Int)⟩ n put ok.1 hkp
        refine kept_j1 x l3 i s _ (put + 1) 0 k (by omega) ok' (fun hp => kept_find x _ _ ok' hk' hp) (fun hp _ hne => ?_) (by omega) ?_
        · have h31 : put = 31 := by omega
          subst h31
          rw [gone_find x ⟨s, (i : Int)⟩ n ok hkp hne]
          decide
        · exact kept_l0 x l3 m k (i + 1) _ (put + 1) (by omega) (by omega) ok' hk' (by omega)
      · rw [hq]
        simp only
        rw [if_neg he]
        refine kept_j1 x l3 i s _ put e k (by omega) ok (fun hp => kept_find x _ _ ok hkp hp) (fun _ h0 => absurd h0 he) (by omega) ?_
        exact kept_l0 x l3 m k (i + 1) _ put (by omega) (by omega) ok hkp (by omega)
    · rw [if_neg c]
theorem pure_KeysKept : bellmanlaw28_KeysKept.PureU := by
  intro l name reply l3 hl hr _ hs
  refine ⟨2000, ?_⟩
  unfold bellmanlaw28_KeysKept.f
  rw [lives_ok 2000 (by omega), Option.bind_some, if_pos rfl, put_eq l name reply _ (by omega), Option.bind_some]
  by_cases ok : okL l
  · rcases put_cases l name reply ok with ⟨e, ok', hs⟩ | ⟨e, he, hq⟩
    · rw [e]
      simp only
      rw [if_pos True.intro]
      refine kept_l0 ⟨name, reply⟩ l3 60 2000 0 _ 0 (by omega) (by omega) ok' (fun _ => ⟨_, [], rfl, rfl⟩) (by omega)
    · rw [hq]
      simp only
      rw [if_neg he, check_eq l 2000 (by omega), if_pos ok, Option.bind_some, if_pos rfl, same_eq l (by have := ok.1; omega) 2000 (by omega), Option.bind_some]
  · have e : putL l name reply = ([], 2) := by unfold putL; rw [if_neg ok]
    rw [e]
    simp only
    rw [if_neg (by decide), check_eq l 2000 (by omega), if_neg ok, Option.bind_some, if_neg (by decide), if_pos (by rfl)]
end Go.Proofs.Ytgcilfpoblijnaa.XK
namespace Go.Proofs.Ytgcilfpoblijnaa.Pure
theorem KeysKept : XK.bellmanlaw28_KeysKept.PureU := XK.pure_KeysKept
end Go.Proofs.Ytgcilfpoblijnaa.Pure
