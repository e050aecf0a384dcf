/- For every device, block, list of writes elsewhere and list of what is kept, within the bound: what was synced is there behind the crash. -/
import Derived.Test.YtedbbpefogcjnaaUBlockSafe
import Derived.Test.YtedbbpefogcjnaaQDevP
import Derived.Test.YtedbbpefogcjnaaQDevL
set_option linter.unusedVariables false
set_option linter.unusedSimpArgs false
namespace Go.Proofs.Ytedbbpefogcjnaa.XB
open Go.RowKit Go.Proofs.YtedbbpefogcjnaaW.PrintWords Go.Proofs.YtedbbpefogcjnaaW.PrintLast Go.Proofs.YtedbbpefogcjnaaW.PrintMore
/-- The device between the writes: right, with the blocks that were synced, and nothing waits for the block. -/
structure Safe (b : List ByteArray) (at_ : Int) (D : Dv) : Prop where
  ok : DOk D
  f : D.f ≤ 9223372036854775807
  b : D.b = b
  n : ∀ x ∈ D.w, x.f0 ≠ at_
theorem Safe.write {b : List ByteArray} {a : Int} {D : Dv} (h : Safe b a D) {at_ : Int} (ha : at_ ≠ a) (s : ByteArray) : Safe b a (dv_Write D at_ s).1 := by
  refine ⟨Write_ok D at_ s, Write_f h.f at_ s, ?_, ?_⟩
  · unfold dv_Write
    split
    · unfold dv_write
      split
      · split
        · exact h.b
        · split
          · exact h.b
          · exact (asks_eq _).1.trans h.b
      · exact h.b
    · rw [h.ok.dev]; exact h.b
  · unfold dv_Write
    split
    · unfold dv_write
      split
      · split
        · exact h.n
        · split
          · exact h.n
          · rw [(asks_eq _).2]
            intro x hx
            rcases List.mem_append.1 hx with h1 | h1
            · exact h.n x h1
            · rw [List.mem_singleton] at h1
              rw [h1]; exact ha
      · exact h.n
    · rw [h.ok.dev]; exact h.n
theorem safe_end {b : List ByteArray} {a : Int} {D : Dv} (h : Safe b a D) (h0 : 0 ≤ a) (h1 : a < (b.length : Int)) (keep : List Int) :
    ((block_Crash.f D.b D.w D.f D.d keep).bind fun bt => (block_Read.f bt.1 bt.2.1 bt.2.2.1 bt.2.2.2.1 a).bind fun bu => if bt.2.2.2.2 = 0 then if bu.2 = 0 then some (bu.1.toList == (b.getD a.toNat ByteArray.empty).toList) else some false else some false) = some true := by
  rw [Crash_f_some D (h.ok.fit h.f) keep, Crash_eq h.ok keep]
  simp only [Option.bind_some, dv_five]
  have hk := Crash_ok h.ok keep
  have hl : a < (((⟨cr_go keep 0 D.w D.b, [], -1, false⟩ : Dv).b.length : Nat) : Int) := by simp only [cr_go_len]; rw [h.b]; exact h1
  rw [show block_Read.f (cr_go keep 0 D.w D.b) [] (-1) false a = some (dv_Read ⟨cr_go keep 0 D.w D.b, [], -1, false⟩ a) from Read_f_some ⟨cr_go keep 0 D.w D.b, [], -1, false⟩ (hk.fit (by simp)) a, Read_eq hk rfl h0 hl]
  simp only [Option.bind_some, if_true]
  rw [has_nil rfl]
  simp only
  rw [cr_go_other keep a.toNat D.w 0 D.b (fun x hx => by have := (h.ok.x x hx).1; have := h.n x hx; omega), h.b]
  simp
theorem safe_loop (b : List ByteArray) (a : Int) (keep : List Int) (more : List S39) (h0 : 0 ≤ a) (h1 : a < (b.length : Int)) (hl : more.length ≤ 1048576) : ∀ (d i : Nat) (D : Dv), i + d = more.length → Safe b a D → Ev (fun k => bellmanlaw03_BlockSafe.l0 k a keep (b.getD a.toNat ByteArray.empty) more (more.length : Int) (i : Int) D.b D.w D.f D.d) true
  | 0, i, D, h, hs => by
    refine Ev.step (f := fun _ => some true) (fun k => ?_) (Ev.now _)
    rw [bellmanlaw03_BlockSafe.l0, if_neg (by omega)]
    exact safe_end hs h0 h1 keep
  | d + 1, i, D, h, hs => by
    have hi : i < more.length := by omega
    have hst : ∀ k, bellmanlaw03_BlockSafe.l0 (k + 1) a keep (b.getD a.toNat ByteArray.empty) more (more.length : Int) (i : Int) D.b D.w D.f D.d = (if (i : Int) < 20 then (if (more[i]).f0 = a then bellmanlaw03_BlockSafe.l0 k a keep (b.getD a.toNat ByteArray.empty) more (more.length : Int) ((i + 1 : Nat) : Int) D.b D.w D.f D.d else (block_Write.f D.b D.w D.f D.d (more[i]).f0 (more[i]).f1).bind fun bt => bellmanlaw03_BlockSafe.l0 k a keep (b.getD a.toNat ByteArray.empty) more (more.length : Int) ((i + 1 : Nat) : Int) bt.1 bt.2.1 bt.2.2.1 bt.2.2.2.1) else bellmanlaw03_BlockSafe.l0 k a keep (b.getD a.toNat ByteArray.empty) more (more.length : Int) ((i + 1 : Nat) : Int) D.b D.w D.f D.d) := fun k => by
      rw [bellmanlaw03_BlockSafe.l0, if_pos (by omega), if_pos (by omega), if_pos (by omega), dv_rdw _ i hi, dv_wrap i (by omega)]
    refine Ev.step hst ?_
    by_cases c : (i : Int) < 20
    · simp only [if_pos c]
      by_cases c2 : (more[i]).f0 = a
      · simp only [if_pos c2]
        exact safe_loop b a keep more h0 h1 hl d (i + 1) D (by omega) hs
      · simp only [if_neg c2]
        rw [Write_f_some D (hs.ok.fit hs.f)]
        simp only [Option.bind_some]
        exact safe_loop b a keep more h0 h1 hl d (i + 1) (dv_Write D (more[i]).f0 (more[i]).f1).1 (by omega) (hs.write c2 _)
    · simp only [if_neg c]
      exact safe_loop b a keep more h0 h1 hl d (i + 1) D (by omega) hs
theorem pure_BlockSafe : bellmanlaw03_BlockSafe.PureU := by
  rintro ⟨b, w, f, d⟩ a more keep ⟨_, _, hf, _⟩ _ _ _ hsz
  simp only at hf hsz ⊢
  have h1 : dv_fit ⟨b, w, f, d⟩ := fit_of (by omega) (by omega) hf
  have hml := len_sum (fun x : S39 => (1 + (x.f1.size + 1)) + 1) (fun _ => Nat.le_add_left _ _) more
  refine Ev.rounds ?_
  unfold bellmanlaw03_BlockSafe.f
  rw [dev_lives]
  simp only [Option.bind_some, if_true]
  rw [show block_Sync.f b w f d = some (dv_five (dv_Sync ⟨b, w, f, d⟩)) from Sync_f_some ⟨b, w, f, d⟩ h1]
  simp only [Option.bind_some]
  have hk := Sync_ok ⟨b, w, f, d⟩
  have hsf : (dv_Sync ⟨b, w, f, d⟩).1.f ≤ 9223372036854775807 := Sync_f h1.2.2
  have hsy := fun h => Sync_yes (D := ⟨b, w, f, d⟩) h
  unfold dv_five
  simp only
  rw [Read_f_some _ (hk.fit hsf) a]
  simp only [Option.bind_some]
  generalize dv_Sync ⟨b, w, f, d⟩ = p at hk hsf hsy ⊢
  obtain ⟨E, why⟩ := p
  simp only at hk hsf hsy ⊢
  have hj1 : ∀ was, Ev (fun k => bellmanlaw03_BlockSafe.j0 k a more keep was true E.b E.w E.f E.d) true := fun was => by
    refine Ev.step (f := fun _ => some true) (fun k => ?_) (Ev.now _)
    rw [bellmanlaw03_BlockSafe.j0, if_pos rfl]
  by_cases c : why = 0
  · simp only [if_pos c]
    by_cases c2 : (dv_Read E a).2 = 0
    · obtain ⟨_, hd, h0, h2⟩ := Read_yes c2
      rw [bne, beq_iff_eq.mpr c2, Read_eq hk hd h0 h2, has_nil (hsy c).2.2.2.1]
      refine Ev.step (f := fun k => bellmanlaw03_BlockSafe.l0 k a keep (E.b.getD a.toNat ByteArray.empty) more (more.length : Int) ((0 : Nat) : Int) E.b E.w E.f E.d) (fun k => ?_) ?_
      · rw [bellmanlaw03_BlockSafe.j0, if_neg (by decide)]
        rfl
      · exact safe_loop E.b a keep more h0 h2 (by omega) more.length 0 E (by omega) ⟨hk, hsf, rfl, fun x hx => by rw [(hsy c).2.2.2.1] at hx; cases hx⟩
    · rw [bne_iff_ne.mpr c2]
      exact hj1 _
  · simp only [if_neg c]
    exact hj1 _
end Go.Proofs.Ytedbbpefogcjnaa.XB
namespace Go.Proofs.Ytedbbpefogcjnaa.Pure
theorem BlockSafe : XB.bellmanlaw03_BlockSafe.PureU := XB.pure_BlockSafe
end Go.Proofs.Ytedbbpefogcjnaa.Pure
