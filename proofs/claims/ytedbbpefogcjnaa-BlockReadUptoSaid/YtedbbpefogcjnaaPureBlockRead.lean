/- For every device, two blocks and data, within the bound: what is written is read, at once and behind a sync; all other blocks have what they had. -/
import Derived.Test.YtedbbpefogcjnaaUBlockRead
import Derived.Test.YtedbbpefogcjnaaQDevP
import Derived.Test.YtedbbpefogcjnaaQDevL
set_option linter.unusedVariables false
set_option linter.unusedSimpArgs false
namespace Go.Proofs.Ytedbbpefogcjnaa.XB
open Go.RowKit Go.Proofs.YtedbbpefogcjnaaW.PrintWords Go.Proofs.YtedbbpefogcjnaaW.PrintLast Go.Proofs.YtedbbpefogcjnaaW.PrintMore
/-- Where a write goes through. -/
theorem Write_yes {D : Dv} {a : Int} {s : ByteArray} (h : (dv_Write D a s).2 = 0) : DOk D ∧ D.d = false ∧ 0 ≤ a ∧ a < (D.b.length : Int) ∧ s.size ≤ 64 ∧ (dv_Write D a s).1.b = D.b ∧ (dv_Write D a s).1.w = D.w ++ [⟨a, s ++ dv_zeros (64 - s.size)⟩] ∧ (dv_Write D a s).1.d = false := by
  unfold dv_Write at h ⊢
  split at h
  · rename_i h0
    obtain ⟨hk, hd⟩ := (open_iff D).1 h0
    rw [if_pos h0]
    unfold dv_write at h ⊢
    split at h
    · rename_i ht
      rw [if_pos ht]
      split at h
      · cases h
      · rename_i hs
        rw [if_neg hs]
        split at h
        · cases h
        · rename_i hw
          rw [if_neg hw]
          unfold dv_there at ht
          simp only [Bool.and_eq_true, decide_eq_true_eq] at ht
          obtain ⟨e1, e2⟩ := asks_eq ⟨D.b, D.w ++ [⟨a, s ++ dv_zeros (64 - s.size)⟩], D.f, D.d⟩
          refine ⟨hk, hd, ht.1, ht.2, by omega, e1, e2, ?_⟩
          rcases asks_two ⟨D.b, D.w ++ [⟨a, s ++ dv_zeros (64 - s.size)⟩], D.f, D.d⟩ with ⟨_, h2⟩ | h2
          · rw [h2]; exact hd
          · omega
    · cases h
  · rename_i h0; exact absurd h h0
theorem has_push {D E : Dv} {a x : Int} {s : ByteArray} (hb : E.b = D.b) (hw : E.w = D.w ++ [⟨x, s⟩]) : dv_has E a = if x = a then s else dv_has D a := by
  rw [dv_has_F, dv_has_F, hb, hw]
  unfold hasF
  rw [List.foldl_append]
  rfl
theorem read_push {D E : Dv} {a x : Int} {s : ByteArray} (hk : DOk D) (hd : D.d = false) (ek : DOk E) (ed : E.d = false) (hb : E.b = D.b) (hw : E.w = D.w ++ [⟨x, s⟩]) (h : a ≠ x) : dv_Read E a = dv_Read D a := by
  unfold dv_Read
  rw [if_pos ((open_iff D).2 ⟨hk, hd⟩), if_pos ((open_iff E).2 ⟨ek, ed⟩)]
  unfold dv_read dv_there
  have e := has_push (a := a) hb hw
  rw [if_neg (fun e => h e.symm)] at e
  rw [e, hb]
/-- Behind a sync each block has what it had. -/
theorem has_sync {E F : Dv} (ek : DOk E) (hb : F.b = dv_apply E.w E.b) (hw : F.w = []) {n : Nat} (hn : n < E.b.length) : dv_has F (n : Int) = dv_has E (n : Int) := by
  rw [has_nil hw, dv_has_F, hb, Int.toNat_natCast, apply_get n E.w E.b (fun x hx => ⟨(ek.x x hx).1, (ek.x x hx).2.1⟩) hn]
theorem same_sync {E F : Dv} (ek : DOk E) (fk : DOk F) (hb : F.b = dv_apply E.w E.b) (hw : F.w = []) : dv_Same E F = (true, 0) := by
  unfold dv_Same
  rw [if_pos ((dok_iff E).2 ek), if_pos ((dok_iff F).2 fk), if_pos (by rw [hb, dv_apply_len]), dv_eqs_all (fun j hj => by rw [has_sync ek hb hw hj])]
theorem pad_begins (s : ByteArray) (n : Nat) : ((s ++ dv_zeros n).extract 0 s.size).toList = s.toList := by
  rw [ByteArray.toList_eq, ByteArray.toList_eq]
  congr 1
  apply Array.ext
  · simp [ByteArray.size_append]
  · intro i h1 h2
    have hi : i < s.data.size := h2
    simp [ByteArray.data_append, ByteArray.data_extract, hi]
theorem pure_BlockRead : bellmanlaw03_BlockRead.PureU := by
  rintro ⟨b, w, f, d⟩ a other data ⟨_, _, hf, _⟩ _ _ hsz
  simp only at hf hsz ⊢
  have h1 : dv_fit ⟨b, w, f, d⟩ := fit_of (by omega) (by omega) hf
  refine Ev.rounds ?_
  unfold bellmanlaw03_BlockRead.f
  rw [dev_lives]
  simp only [Option.bind_some, if_true]
  rw [show block_Write.f b w f d a data = some (dv_five (dv_Write ⟨b, w, f, d⟩ a data)) from Write_f_some ⟨b, w, f, d⟩ h1 a data]
  simp only [Option.bind_some]
  have hk := Write_ok ⟨b, w, f, d⟩ a data
  have hwf : (dv_Write ⟨b, w, f, d⟩ a data).1.f ≤ 9223372036854775807 := Write_f h1.2.2 a data
  have hy := fun h => Write_yes (D := ⟨b, w, f, d⟩) (a := a) (s := data) h
  unfold dv_five
  simp only
  generalize dv_Write ⟨b, w, f, d⟩ a data = p at hk hwf hy ⊢
  obtain ⟨E, why⟩ := p
  simp only at hk hwf hy ⊢
  by_cases c : why = 0
  rotate_left
  · simp only [if_neg c]
    exact Ev.now _
  simp only [if_pos c]
  obtain ⟨dk, dd, h0, h2, hs, eb, ew, ed⟩ := hy c
  have hzs := zeros_add data hs
  rw [Read_f_some E (hk.fit hwf) a, Sync_f_some E (hk.fit hwf), Read_eq hk ed h0 (by rw [eb]; exact h2), has_push (D := ⟨b, w, f, d⟩) eb ew, if_pos rfl]
  simp only [Option.bind_some, if_true]
  have hp : ((data ++ dv_zeros (64 - data.size)).extract 0 ((data.size : Int)).toNat).toList = data.toList := by rw [Int.toNat_natCast]; exact pad_begins data _
  rw [hp]
  generalize hpp : data ++ dv_zeros (64 - data.size) = P at hzs ew ⊢
  simp only [if_pos (show (P.size : Int) = 64 by omega), if_pos (show (0 : Int) ≤ (data.size : Int) by omega), if_pos (show (data.size : Int) ≤ (P.size : Int) by omega), bne_self_eq_false]
  have hrp := fun h => read_push (a := other) dk dd hk ed eb ew h
  have hfk := Sync_ok E
  have hff : (dv_Sync E).1.f ≤ 9223372036854775807 := Sync_f hwf
  have hfy := fun h => Sync_yes (D := E) h
  have hft := Sync_two hk ed
  unfold dv_five
  simp only
  generalize dv_Sync E = q at hfk hff hfy hft ⊢
  obtain ⟨F, w2⟩ := q
  simp only at hfk hff hfy hft ⊢
  have hj1 : Ev (fun k => bellmanlaw03_BlockRead.j1 k a P w2 false E.b E.w E.f E.d F.b F.w F.f F.d) true := by
    by_cases c2 : w2 = 0
    · subst c2
      obtain ⟨_, _, fb, fw, fd⟩ := hfy rfl
      refine Ev.step (f := fun _ => some true) (fun k => ?_) (Ev.now _)
      rw [bellmanlaw03_BlockRead.j1, if_neg (by decide), if_pos rfl, Read_f_some F (hfk.fit hff) a, Same_f_some E F, same_sync hk hfk fb fw, Read_eq hfk fd h0 (by rw [fb, dv_apply_len, eb]; exact h2)]
      obtain ⟨n, rfl⟩ : ∃ n : Nat, a = (n : Int) := ⟨a.toNat, by omega⟩
      rw [has_sync hk fb fw (by rw [eb]; omega), has_push (D := ⟨b, w, f, d⟩) eb ew, if_pos rfl]
      simp [fw]
    · refine Ev.step (f := fun _ => some true) (fun k => ?_) (Ev.now _)
      rw [bellmanlaw03_BlockRead.j1, if_neg (by decide), if_neg c2]
      have : w2 = 9 := by omega
      rw [this]; rfl
  refine Ev.step (f := fun k => bellmanlaw03_BlockRead.j1 k a P w2 false E.b E.w E.f E.d F.b F.w F.f F.d) (fun k => ?_) hj1
  rw [bellmanlaw03_BlockRead.j0, if_neg (by decide), show block_Read.f b w f d other = some (dv_Read ⟨b, w, f, d⟩ other) from Read_f_some ⟨b, w, f, d⟩ h1 other, Read_f_some E (hk.fit hwf) other]
  simp only [Option.bind_some]
  by_cases c3 : other = a
  · rw [if_pos c3]
  · rw [if_neg c3, hrp c3, if_pos rfl, bne_self_eq_false]
end Go.Proofs.Ytedbbpefogcjnaa.XB
namespace Go.Proofs.Ytedbbpefogcjnaa.Pure
theorem BlockRead : XB.bellmanlaw03_BlockRead.PureU := XB.pure_BlockRead
end Go.Proofs.Ytedbbpefogcjnaa.Pure
