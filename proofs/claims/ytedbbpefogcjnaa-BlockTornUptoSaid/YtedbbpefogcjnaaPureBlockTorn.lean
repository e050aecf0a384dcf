/- For every device, block, data and number kept, within the bound: behind a crash the block is what it was, with the first bytes of what was written. -/
import Derived.Test.YtedbbpefogcjnaaUBlockTorn
import Derived.Test.YtedbbpefogcjnaaQDevP
import Derived.Test.YtedbbpefogcjnaaQDevL
set_option linter.unusedVariables false
set_option linter.unusedSimpArgs false
namespace Go.Proofs.Ytedbbpefogcjnaa.XB
open Go.RowKit Go.Proofs.YtedbbpefogcjnaaW.PrintWords Go.Proofs.YtedbbpefogcjnaaW.PrintLast Go.Proofs.YtedbbpefogcjnaaW.PrintMore
/-- The device behind a write of a block to a right one where nothing waits. -/
theorem torn_write {E : Dv} (hk : DOk E) (hd : E.d = false) (hw : E.w = []) {a : Int} (h0 : 0 ≤ a) (h1 : a < (E.b.length : Int)) {s : ByteArray} (hs : s.size ≤ 64) : (dv_Write E a s).1.b = E.b ∧ (dv_Write E a s).1.w = [⟨a, s ++ dv_zeros (64 - s.size)⟩] := by
  unfold dv_Write
  rw [if_pos ((open_iff E).2 ⟨hk, hd⟩)]
  unfold dv_write dv_there
  rw [if_pos (by rw [decide_eq_true h0, decide_eq_true h1]; rfl), if_neg (by omega), hw, if_neg (by decide)]
  exact asks_eq ⟨E.b, [] ++ [⟨a, s ++ dv_zeros (64 - s.size)⟩], E.f, E.d⟩
theorem torn_pad {s : ByteArray} (h : s.size < 64) : (s ++ (⟨#[0]⟩ : ByteArray)) ++ dv_zeros (64 - (s ++ (⟨#[0]⟩ : ByteArray)).size) = s ++ dv_zeros (64 - s.size) := by
  have e : (s ++ (⟨#[0]⟩ : ByteArray)).size = s.size + 1 := by rw [ByteArray.size_append]; rfl
  obtain ⟨n, hn⟩ : ∃ n, 64 - s.size = n + 1 := ⟨63 - s.size, by omega⟩
  rw [e, show 64 - (s.size + 1) = n by omega, hn]
  apply ByteArray.ext
  apply Array.ext'
  simp only [ByteArray.data_append, Array.toList_append, List.append_assoc]
  congr 1
theorem torn_end {X : Dv} {b : List ByteArray} {a keep : Int} {s : ByteArray} (hk : DOk X) (hf : X.f ≤ 9223372036854775807) (hb : X.b = b) (hw : X.w = [⟨a, s⟩]) (h0 : 0 ≤ a) (h1 : a < (b.length : Int)) :
    ((block_Crash.f X.b X.w X.f X.d ([keep] : List Int)).bind fun bt329 => ((block_Read.f bt329.1 bt329.2.1 bt329.2.2.1 bt329.2.2.2.1 a).bind fun bt339 => (if bt329.2.2.2.2 = 0 then (if bt339.2 = 0 then (if 0 ≤ (mx 0 (mn 64 keep)) then (if (mx 0 (mn 64 keep)) ≤ (s.size : Int) then (if (mx 0 (mn 64 keep)) ≤ ((b.getD a.toNat ByteArray.empty).size : Int) then (if (s.extract 0 ((mx 0 (mn 64 keep)) : Int).toNat).size + ((b.getD a.toNat ByteArray.empty).extract ((mx 0 (mn 64 keep)) : Int).toNat (b.getD a.toNat ByteArray.empty).size).size ≤ 9223372036854775807 then (some (bt339.1.toList == ((s.extract 0 ((mx 0 (mn 64 keep)) : Int).toNat) ++ ((b.getD a.toNat ByteArray.empty).extract ((mx 0 (mn 64 keep)) : Int).toNat (b.getD a.toNat ByteArray.empty).size)).toList)) else (none)) else (none)) else (none)) else (none)) else (some false)) else (some false)))) = some true := by
  have hx := hk.x ⟨a, s⟩ (by rw [hw]; exact List.mem_singleton_self _)
  have hsz : (b.getD a.toNat ByteArray.empty).size = 64 := by
    refine hk.s _ ?_
    rw [hb, List.getD_eq_getElem?_getD, List.getElem?_eq_getElem (by omega)]
    exact List.getElem_mem _
  have hss : s.size = 64 := hx.2.2
  have hm : (mx 0 (mn 64 keep)) = ((cr_n [keep] 0 : Nat) : Int) := by
    unfold cr_n mx mn
    rw [if_pos (show 0 < [keep].length from Nat.one_pos), show rd [keep] ((0 : Nat) : Int) = keep from rfl]
    split <;> split <;> omega
  have hn := cr_n_le [keep] 0
  rw [Crash_f_some X (hk.fit hf) [keep], Crash_eq hk [keep]]
  simp only [Option.bind_some, dv_five]
  have hck := Crash_ok hk [keep]
  have hl : a < (((⟨cr_go [keep] 0 X.w X.b, [], -1, false⟩ : Dv).b.length : Nat) : Int) := by simp only [cr_go_len]; rw [hb]; exact h1
  rw [show block_Read.f (cr_go [keep] 0 X.w X.b) [] (-1) false a = some (dv_Read ⟨cr_go [keep] 0 X.w X.b, [], -1, false⟩ a) from Read_f_some ⟨cr_go [keep] 0 X.w X.b, [], -1, false⟩ (hck.fit (by simp)) a, Read_eq hck rfl h0 hl]
  simp only [Option.bind_some, if_true]
  rw [has_nil rfl]
  simp only
  rw [hw, hb]
  unfold cr_go cr_go
  simp only
  rw [show ∀ x, (b.set a.toNat x).getD a.toNat ByteArray.empty = x from fun x => by rw [List.getD_eq_getElem?_getD, List.getElem?_set_self (by omega)]; rfl]
  generalize b.getD a.toNat ByteArray.empty = t at hsz ⊢
  rw [hm, Int.toNat_natCast]
  generalize cr_n [keep] 0 = n at hn ⊢
  rw [if_pos (by omega), if_pos (by omega), if_pos (by omega), if_pos (by simp only [ByteArray.size_extract]; omega)]
  unfold cr_mix
  simp
theorem torn_loop {X : Dv} {b : List ByteArray} {a keep : Int} {s : ByteArray} (hk : DOk X) (hf : X.f ≤ 9223372036854775807) (hb : X.b = b) (hw : X.w = [⟨a, s⟩]) (h0 : 0 ≤ a) (h1 : a < (b.length : Int)) : ∀ (d : Nat) (t : ByteArray), t.size + d = 64 → t ++ dv_zeros (64 - t.size) = s → Ev (fun k => bellmanlaw03_BlockTorn.l0 k a keep (b.getD a.toNat ByteArray.empty) t X.b X.w X.f X.d) true
  | 0, t, h, e => by
    have e2 : t = s := by
      rw [← e, show 64 - t.size = 0 by omega]
      apply ByteArray.ext
      apply Array.ext'
      simp [ByteArray.data_append, dv_zeros, Lib.repeatL]
    subst e2
    refine Ev.step (f := fun _ => some true) (fun k => ?_) (Ev.now _)
    rw [bellmanlaw03_BlockTorn.l0, if_neg (by omega)]
    exact torn_end hk hf hb hw h0 h1
  | d + 1, t, h, e => by
    have e3 : (t ++ (⟨#[0]⟩ : ByteArray)).size = t.size + 1 := by rw [ByteArray.size_append]; rfl
    refine Ev.step (f := fun k => bellmanlaw03_BlockTorn.l0 k a keep (b.getD a.toNat ByteArray.empty) (t ++ (⟨#[0]⟩ : ByteArray)) X.b X.w X.f X.d) (fun k => ?_) ?_
    · rw [bellmanlaw03_BlockTorn.l0, if_pos (by omega), if_pos (by omega)]
    · exact torn_loop hk hf hb hw h0 h1 d _ (by omega) ((torn_pad (by omega)).trans e)
theorem pure_BlockTorn : bellmanlaw03_BlockTorn.PureU := by
  rintro ⟨b, w, f, d⟩ a data keep ⟨_, _, hf, _⟩ _ _ hsz
  simp only at hf hsz ⊢
  have h1 : dv_fit ⟨b, w, f, d⟩ := fit_of (by omega) (by omega) hf
  refine Ev.rounds ?_
  unfold bellmanlaw03_BlockTorn.f
  rw [dev_lives]
  simp only [Option.bind_some, if_true]
  rw [show block_Sync.f b w f d = some (dv_five (dv_Sync ⟨b, w, f, d⟩)) from Sync_f_some ⟨b, w, f, d⟩ h1]
  simp only [Option.bind_some]
  have hk := Sync_ok ⟨b, w, f, d⟩
  have hsf : (dv_Sync ⟨b, w, f, d⟩).1.f ≤ 9223372036854775807 := Sync_f h1.2.2
  have hsy := fun h => Sync_yes (D := ⟨b, w, f, d⟩) h
  unfold dv_five
  simp only
  rw [Read_f_some _ (hk.fit hsf) a, Write_f_some _ (hk.fit hsf) a data]
  simp only [Option.bind_some]
  generalize dv_Sync ⟨b, w, f, d⟩ = p at hk hsf hsy ⊢
  obtain ⟨E, why⟩ := p
  simp only at hk hsf hsy ⊢
  have hj1 : ∀ was xb xw xf xd, Ev (fun k => bellmanlaw03_BlockTorn.j0 k a keep was data true xb xw xf xd) true := fun was xb xw xf xd => by
    refine Ev.step (f := fun _ => some true) (fun k => ?_) (Ev.now _)
    rw [bellmanlaw03_BlockTorn.j0, if_pos rfl]
  by_cases c : why = 0
  rotate_left
  · simp only [if_neg c]
    exact hj1 _ _ _ _ _
  simp only [if_pos c]
  by_cases c2 : (dv_Read E a).2 = 0
  rotate_left
  · simp only [if_neg c2]
    exact hj1 _ _ _ _ _
  simp only [if_pos c2]
  by_cases c3 : (data.size : Int) > 64
  · rw [decide_eq_true c3]
    exact hj1 _ _ _ _ _
  rw [decide_eq_false c3]
  obtain ⟨_, hd, h0, h2⟩ := Read_yes c2
  have hw := (hsy c).2.2.2.1
  rw [Read_eq hk hd h0 h2, has_nil hw]
  obtain ⟨ew, eb⟩ := torn_write (s := data) hk hd hw h0 h2 (by omega)
  refine Ev.step (f := fun k => bellmanlaw03_BlockTorn.l0 k a keep (E.b.getD a.toNat ByteArray.empty) data (dv_five (dv_Write E a data)).1 (dv_five (dv_Write E a data)).2.1 (dv_five (dv_Write E a data)).2.2.1 (dv_five (dv_Write E a data)).2.2.2.1) (fun k => ?_) ?_
  · rw [bellmanlaw03_BlockTorn.j0, if_neg (by decide)]
  · exact torn_loop (Write_ok E a data) (Write_f hsf a data) ew eb h0 h2 (64 - data.size) data (by omega) rfl
end Go.Proofs.Ytedbbpefogcjnaa.XB
namespace Go.Proofs.Ytedbbpefogcjnaa.Pure
theorem BlockTorn : XB.bellmanlaw03_BlockTorn.PureU := XB.pure_BlockTorn
end Go.Proofs.Ytedbbpefogcjnaa.Pure
