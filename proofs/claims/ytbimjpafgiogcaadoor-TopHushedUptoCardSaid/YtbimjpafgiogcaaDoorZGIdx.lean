-- by a program of this session
import Derived.Test.YtbimjpafgiogcaaDoorZWA
import Derived.Shelf.SlicesQ.IndexFunc
import Derived.WalkKit
set_option linter.unusedVariables false
set_option linter.unusedSimpArgs false
namespace Go.Proofs.YtbimjpafgiogcaaDoor
open Go.RowKit Go.Proofs.YtbimjpafgiogcaaDoorW.PrintWords Go.Proofs.YtbimjpafgiogcaaDoorW.PrintLast Go.Proofs.YtbimjpafgiogcaaDoorW.PrintMore Go.Shelf Go.Lib
section
variable {P : Program} {ρ : Ren}
theorem gi_index0 (L : SlLaysH0.n6 P ρ) (A : Option Addr) (c : Nat) (fv : Value) (w : World) : Calls P (ρ.f 6) #[.slice A 0 c, fv] w fun e w' => e = .returned (.int .i64 (-1)) ∧ w' = w := by
  have mixed := L.mixed; have t0 := L.t0; have a0 := L.a0; have z0 := L.z0; have v0 := L.v0; have t3 := L.t3; have a3 := L.a3; have z3 := L.z3; have v3 := L.v3; have t4 := L.t4; have a4 := L.a4; have z4 := L.z4; have v4 := L.v4; have t22 := L.t22; have a22 := L.a22; have z22 := L.z22; have v22 := L.v22; have t25 := L.t25; have a25 := L.a25; have z25 := L.z25; have v25 := L.v25
  obtain ⟨_, _, FG⟩ := L.f6
  go_enter FG, SlBodyH.n6_ntmps ρ
  go_wp2
  refine wp_loop_rounds 1 ?_
  rw [rounds_succ]
  go_wp2
  go_ret
  exact ⟨rfl, rfl⟩
theorem gi_contains0 (L : SlLaysH0.n8 P ρ) (A : Option Addr) (c : Nat) (fv : Value) (w : World) : Calls P (ρ.f 8) #[.slice A 0 c, fv] w fun e w' => e = .returned (.bool false) ∧ w' = w := by
  have mixed := L.mixed; have t0 := L.t0; have a0 := L.a0; have z0 := L.z0; have v0 := L.v0; have t3 := L.t3; have a3 := L.a3; have z3 := L.z3; have v3 := L.v3; have t4 := L.t4; have a4 := L.a4; have z4 := L.z4; have v4 := L.v4; have t22 := L.t22; have a22 := L.a22; have z22 := L.z22; have v22 := L.v22; have t25 := L.t25; have a25 := L.a25; have z25 := L.z25; have v25 := L.v25
  have e6 : ∀ args w, (callFunc (ρ.f 6) args).run P w = .ok (.enter (ρ.f 6) args) w := L.f6.enters rfl
  have h0 := gi_index0 (P := P) (ρ := ρ) { L with } A c fv w
  obtain ⟨_, _, FG⟩ := L.f8
  go_enter FG, SlBodyH.n8_ntmps ρ
  go_wp2_with (go_at_fn (ρ.f 6); refine h0.mono ?_; rintro e w' ⟨rfl, rfl⟩)
  go_ret
  exact ⟨rfl, rfl⟩
variable {α : Type} [Inhabited α] {d : Kd α} {enc : α → List Value}
theorem gi_cells {w : World} {A : Option Addr} {l : List α} (hK : ∀ {w x cs}, d.K w x cs → cs = enc x) (h : d.C w A l.length l) (hl : 0 < l.length) (hz : 0 < d.sz) : ∃ b off, A = some ⟨b, off, none⟩ ∧ b < w.heap.size ∧ ∀ j, j < l.length → ∀ i v, (enc l[j]!)[i]? = some v → w.cell? ⟨b, off + j * d.sz + i, none⟩ = some v := by
  obtain ⟨ad, rfl, hc⟩ := h.2.2 hl
  obtain ⟨c, hcl, hk, hcell⟩ := hc 0 l[0] (List.getElem?_eq_getElem hl)
  have h0 := hcell 0 c[0] (List.getElem?_eq_getElem (by omega))
  have hs : ad.spot = none := by
    unfold World.cell? at h0
    split at h0
    · split at h0
      · cases h0
      · rename_i hn
        cases hsp : ad.spot with
        | none => rfl
        | some x => simp [Addr.add, hsp] at hn
    · cases h0
  obtain ⟨b, off, sp⟩ := ad
  simp only at hs
  subst hs
  refine ⟨b, off, rfl, by have h9 := World.block_lt_of_cell? w _ h0; rw [Addr.add_lit] at h9; exact h9, fun j hj i v hv => ?_⟩
  obtain ⟨c', hcl', hk', hcell'⟩ := hc j l[j] (List.getElem?_eq_getElem hj)
  have he := hK hk'
  rw [List.getElem!_of_getElem? (l := l) (List.getElem?_eq_getElem hj), ← he] at hv
  have h1 := hcell' i v hv
  rw [Addr.add_lit] at h1
  rw [Nat.add_assoc]
  exact h1
theorem gi_index (L : SlLaysH0.n6 P ρ) (aE : ∀ w, (isAgg (ρ.t 23)).run P w = .ok true w) (zE : ∀ w, (Go.sizeOf (ρ.t 23)).run P w = .ok d.sz w) (henc : ∀ x, (enc x).length = d.sz) (hK : ∀ {w x cs}, d.K w x cs → cs = enc x) (hz : 0 < d.sz)
    (p : α → Bool) (g : Nat) (lb : Array Value) (eg : ∀ args w, (callFunc g args).run P w = .ok (.enter g args) w) (A : Option Addr) (c : Nat) (l : List α) (w : World) (hC : d.C w A l.length l) (hp : PredBelow P g lb (fun x => .agg (enc x).toArray) p w) :
    Calls P (ρ.f 6) #[.slice A l.length c, .func (.func g) #[] lb] w fun e w' => e = .returned (.int .i64 (Lib.idxBy (fun _ y => p y) l default)) ∧ Below w.heap.size w w' := by
  rcases Nat.eq_zero_or_pos l.length with h0 | h0
  · obtain rfl : l = [] := List.eq_nil_of_length_eq_zero h0
    refine (gi_index0 L A c _ w).mono ?_
    rintro e w' ⟨rfl, rfl⟩
    exact ⟨rfl, Below.refl _ _⟩
  · obtain ⟨b, off, rfl, hb, hc⟩ := gi_cells hK hC h0 hz
    have h := AnyQ.slices_IndexFunc L d.sz aE zE enc henc p g lb eg b off l.length c l w hp (Nat.le_refl _) hC.2.1 hb hc
    rw [List.take_length] at h
    exact h
theorem gi_contains (L : SlLaysH0.n8 P ρ) (aE : ∀ w, (isAgg (ρ.t 23)).run P w = .ok true w) (zE : ∀ w, (Go.sizeOf (ρ.t 23)).run P w = .ok d.sz w) (henc : ∀ x, (enc x).length = d.sz) (hK : ∀ {w x cs}, d.K w x cs → cs = enc x) (hz : 0 < d.sz)
    (p : α → Bool) (g : Nat) (lb : Array Value) (eg : ∀ args w, (callFunc g args).run P w = .ok (.enter g args) w) (A : Option Addr) (c : Nat) (l : List α) (w : World) (hC : d.C w A l.length l) (hp : PredBelow P g lb (fun x => .agg (enc x).toArray) p w) :
    Calls P (ρ.f 8) #[.slice A l.length c, .func (.func g) #[] lb] w fun e w' => e = .returned (.bool (l.any p)) ∧ Below w.heap.size w w' := by
  rcases Nat.eq_zero_or_pos l.length with h0 | h0
  · obtain rfl : l = [] := List.eq_nil_of_length_eq_zero h0
    refine (gi_contains0 L A c _ w).mono ?_
    rintro e w' ⟨rfl, rfl⟩
    exact ⟨rfl, Below.refl _ _⟩
  · obtain ⟨b, off, rfl, hb, hc⟩ := gi_cells hK hC h0 hz
    have h := AnyQ.slices_ContainsFunc L d.sz aE zE enc henc p g lb eg b off l.length c l w hp (Nat.le_refl _) hC.2.1 hb hc
    rw [List.take_length] at h
    exact h
end
end Go.Proofs.YtbimjpafgiogcaaDoor
