-- by a program of this session
import Derived.Test.YthlnjbaichkipaaDoorRows
import Derived.Test.YthlnjbaichkipaaDoorZWWords
import Derived.Deep.Slices
import Derived.ChangeArms
import Derived.OpenShut
import Derived.ChangeOld
set_option linter.unusedVariables false
set_option linter.unusedSimpArgs false
namespace Go.Proofs.YthlnjbaichkipaaDoor.Dec
open Go.RowKit Go.Proofs.YthlnjbaichkipaaDoorW.PrintWords Go.ChangeShapes Go.WideShapes Go.Deep
section
variable {H : Type}
theorem bulk_one (d : DataW H) : 1 ≤ Rows.uptoBulk d := by
  cases d with
  | lit l => cases l <;> simp [Rows.uptoBulk]
  | nil => simp [Rows.uptoBulk]
  | ptr d => simp [Rows.uptoBulk]
  | slice elems spare => simp [Rows.uptoBulk]
  | agg parts => simp [Rows.uptoBulk]
  | iface t d => simp [Rows.uptoBulk]
  | map entries => simp [Rows.uptoBulk]
  | held h => simp [Rows.uptoBulk]
variable {enc : TypeId × Value → H} {P : Program} {w : World} {base : Nat} {spare : Nat → Bool} {held : Bool}
def D {α : Type} (enc : TypeId × Value → H) (P : Program) (w : World) (base : Nat) (spare : Nat → Bool) (held : Bool) (t : TypeId) (kd : Kd α) (wf : α → Prop) (bk : α → Nat) : Prop :=
  ∀ (fuel : Nat) (cs : List Value) (x : DataW H × List MemPlace), DataW.trod enc P w base spare held fuel t cs = some x → ∃ a, kd.K w a cs ∧ wf a ∧ bk a ≤ Rows.uptoBulk x.1
theorem D_int {t : TypeId} {k : IntKind} (ht : P.underlying t = some (.int k)) : D enc P w base spare held t (Kd.int k) (fun n => (Lit.int k n).wf = true) (fun _ => 1) := by
  intro fuel cs x h
  obtain ⟨n, hc, hx, hw⟩ := DataW.trod_int ht h
  exact ⟨n, hc, hw, bulk_one _⟩
theorem D_string {t : TypeId} (ht : P.underlying t = some .string) : D enc P w base spare held t Kd.string (fun _ => True) (fun s => s.size + 1) := by
  intro fuel cs x h
  obtain ⟨s, hc, hx, _⟩ := DataW.trod_string ht h
  refine ⟨s, hc, trivial, ?_⟩
  rw [hx]
  simp [Rows.uptoBulk]
theorem list_of {α : Type} {p : Nat → α → Prop} : ∀ (n : Nat), (∀ i, i < n → ∃ a, p i a) → ∃ l : List α, l.length = n ∧ ∀ i a, l[i]? = some a → p i a
  | 0, _ => ⟨[], rfl, fun i a h => by simp at h⟩
  | n + 1, h => by
    obtain ⟨l, hl, hp⟩ := list_of n (fun i hi => h i (by omega))
    obtain ⟨a, ha⟩ := h n (by omega)
    refine ⟨l ++ [a], by simp [hl], fun i b hb => ?_⟩
    rw [List.getElem?_append] at hb
    split at hb
    · exact hp i b hb
    · have hi : i - l.length = 0 := by
        rcases Nat.eq_zero_or_pos (i - l.length) with h0 | h0
        · exact h0
        · rw [List.getElem?_eq_none (by simp; omega)] at hb; cases hb
      rw [hi] at hb
      injection hb with hb
      subst hb
      have : i = n := by omega
      subst this; exact ha
theorem bulk_sum {α : Type} {bk : α → Nat} : ∀ (l : List α) (Dx : Nat → DataW H), (∀ i a, l[i]? = some a → bk a ≤ Rows.uptoBulk (Dx i)) → (l.map bk).sum ≤ Rows.uptoBulkAll ((List.range l.length).map Dx)
  | [], _, _ => by simp
  | a :: l, Dx, h => by
    have h0 := h 0 a rfl
    have h1 := bulk_sum l (fun i => Dx (i + 1)) (fun i b hb => h (i + 1) b (by simpa using hb))
    rw [List.length_cons, List.range_succ_eq_map]
    simp only [List.map_cons, List.sum_cons, Rows.uptoBulkAll, List.map_map]
    have e : (List.map (fun i => Dx (i + 1)) (List.range l.length)) = List.map (Dx ∘ Nat.succ) (List.range l.length) := rfl
    rw [e] at h1
    omega
theorem D_slice {α : Type} {kd : Kd α} {wf : α → Prop} {bk : α → Nat} {t e : TypeId} (ht : P.underlying t = some (.slice e)) (hc : P.cellsOf e = kd.sz) (h : D enc P w base spare held e kd wf bk) :
    D enc P w base spare held t (Kd.slice e kd) (fun l => ∀ a ∈ l, wf a) (fun l => (l.map bk).sum + 1) := by
  intro fuel cs x hx
  rcases open_slice ht hx with ⟨rfl, rfl⟩ | ⟨a, len, cap, m, n, Dx, Pl, rfl, hb, hl, hm, hmm, rfl, he⟩
  · refine ⟨([] : List α), ⟨none, 0, rfl, Nat.le_refl _, rfl, Nat.zero_le _, fun h0 => absurd h0 (Nat.lt_irrefl 0)⟩, ⟨?_, ?_⟩⟩
    · intro a ha
      exact absurd ha (by simp)
    · simp [Rows.uptoBulk]
  · have hlm : len ≤ m := by rw [hmm]; split <;> omega
    obtain ⟨l, hll, hp⟩ := list_of (p := fun i y => wf y ∧ bk y ≤ Rows.uptoBulk (Dx i) ∧ ∃ c, c.length = kd.sz ∧ kd.K w y c ∧ ∀ j u, c[j]? = some u → w.cell? (a.add (i * kd.sz + j)) = some u) len (fun i hi => by
      obtain ⟨cs', h1, h2⟩ := he i (by omega)
      obtain ⟨y, hk, hw, hbk⟩ := h n cs' _ h2
      obtain ⟨_, hlen, hcell⟩ := World.cells?_some h1
      refine ⟨y, hw, hbk, cs', by rw [hlen, hc], hk, fun j u hu => ?_⟩
      have hj : j < cs'.length := (List.getElem?_eq_some_iff.1 hu).1
      have h3 := hcell j (by omega)
      rw [Go.Deep.add_add] at h3
      rw [← hc, h3, hu])
    have hmax : maxLen ≤ 9223372036854775807 := by decide
    refine ⟨l, ⟨some a, cap, by rw [hll], by omega, rfl, by omega, fun h0 => ⟨a, rfl, fun j p hj => ?_⟩⟩, fun y hy => ?_, ?_⟩
    · obtain ⟨_, _, c, hcl, hk, hcell⟩ := hp j p hj
      exact ⟨c, hcl, hk, hcell⟩
    · obtain ⟨i, hi, rfl⟩ := List.getElem_of_mem hy
      exact (hp i _ (List.getElem?_eq_getElem hi)).1
    · have hs := bulk_sum l Dx (fun i y hy => (hp i y hy).2.1)
      rw [hll] at hs
      simp only [Rows.uptoBulk]
      omega
end
section
variable {H : Type} {enc : TypeId × Value → H} {P : Program} {w : World} {base : Nat} {spare : Nat → Bool} {held : Bool}
end
section
variable {H : Type} {enc : TypeId × Value → H} {P : Program} {w : World} {base : Nat} {spare : Nat → Bool} {held : Bool}
theorem arg_slice {α : Type} {kd : Kd α} {wf' : List α → Prop} {bk' : List α → Nat} {t e : TypeId} {r : Reach} {b0 : Nat} {v : Value} {d : DataW H} {ps : List MemPlace} (ht : P.underlying t = some (.slice e)) (hd : D enc P w base spare held t (Kd.slice e kd) wf' bk')
    (hval : Value.okWide P w r b0 t v) (h : DataW.Trod enc P w base spare held t v d ps) : ∃ (A : Option Addr) (c : Nat) (l : List α), v = .slice A l.length c ∧ l.length ≤ c ∧ kd.C w A l.length l ∧ wf' l ∧ bk' l ≤ Rows.uptoBulk d := by
  obtain ⟨a, len, cap, rfl⟩ := okWide_slice ht hval
  obtain ⟨fuel, hf⟩ := h
  obtain ⟨l, ⟨A, c, hcs, hlc, hC⟩, hw, hb⟩ := hd fuel _ _ hf
  simp [Value.cells] at hcs
  obtain ⟨rfl, rfl, rfl⟩ := hcs
  exact ⟨_, _, l, rfl, hlc, hC, hw, hb⟩
end
end Go.Proofs.YthlnjbaichkipaaDoor.Dec
