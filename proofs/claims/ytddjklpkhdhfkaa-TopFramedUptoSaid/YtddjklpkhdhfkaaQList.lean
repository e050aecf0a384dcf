-- by a program of this session
import Derived.Test.YtddjklpkhdhfkaaQWire
set_option linter.unusedVariables false
set_option linter.unusedSimpArgs false
/-! Lists of parts: their bytes, and what bytes begin with. Plain. -/
namespace Go.Proofs.Ytddjklpkhdhfkaa.Wire
section
variable {α : Type} (enc : α → List UInt8) (dec : List UInt8 → α × List UInt8 × Int) (ok : α → Prop)
def takeN : Nat → List UInt8 → List α × List UInt8 × Int
  | 0, l => ([], l, 0)
  | n + 1, l => if (dec l).2.2 = 0 then (if (takeN n (dec l).2.1).2.2 = 0 then ((dec l).1 :: (takeN n (dec l).2.1).1, (takeN n (dec l).2.1).2.1, 0) else ([], [], (takeN n (dec l).2.1).2.2)) else ([], [], (dec l).2.2)
def encAll (xs : List α) : List UInt8 := (xs.map enc).flatten
def listL (xs : List α) : List UInt8 := numL xs.length ++ encAll enc xs
def getListL (l : List UInt8) : List α × List UInt8 × Int :=
  if (getL l).2.2 ≠ 0 then ([], [], (getL l).2.2) else if (getL l).1 < 0 then ([], [], 7) else if 1024 < (getL l).1 then ([], [], 12) else takeN dec (getL l).1.toNat (getL l).2.1
variable {enc dec ok}
theorem takeN_enc (h1 : ∀ a r, ok a → dec (enc a ++ r) = (a, r, 0)) (r : List UInt8) : ∀ xs : List α, (∀ a ∈ xs, ok a) → takeN dec xs.length (encAll enc xs ++ r) = (xs, r, 0)
  | [], _ => rfl
  | a :: xs, h => by
    have ih := takeN_enc h1 r xs (fun b hb => h b (List.mem_cons_of_mem _ hb))
    have e : encAll enc (a :: xs) ++ r = enc a ++ (encAll enc xs ++ r) := by simp [encAll]
    rw [List.length_cons, e]
    unfold takeN
    rw [h1 a _ (h a List.mem_cons_self)]
    simp only [if_true]
    rw [ih]
    simp
theorem takeN_inv (h2 : ∀ l, (∃ a r, ok a ∧ l = enc a ++ r ∧ dec l = (a, r, 0)) ∨ ∃ d e, e ≠ 0 ∧ (dec l).2 = (d, e)) : ∀ (n : Nat) (l : List UInt8),
    (∃ xs r, xs.length = n ∧ (∀ a ∈ xs, ok a) ∧ l = encAll enc xs ++ r ∧ takeN dec n l = (xs, r, 0)) ∨ ∃ e, e ≠ 0 ∧ takeN dec n l = ([], [], e)
  | 0, l => .inl ⟨[], l, rfl, fun a ha => absurd ha (by simp), rfl, rfl⟩
  | n + 1, l => by
    rcases h2 l with ⟨a, r, ha, e, hd⟩ | ⟨d, e, he, hd⟩
    · rcases takeN_inv h2 n r with ⟨xs, q, hl, hx, er, ht⟩ | ⟨e', he', ht⟩
      · refine .inl ⟨a :: xs, q, by simp [hl], ?_, ?_, ?_⟩
        · intro b hb
          rcases List.mem_cons.1 hb with rfl | hb
          · exact ha
          · exact hx b hb
        · rw [e, er]; simp [encAll]
        · unfold takeN
          rw [hd]
          simp only [if_true]
          rw [ht]
          simp
      · refine .inr ⟨e', he', ?_⟩
        unfold takeN
        rw [hd]
        simp only [if_true]
        rw [ht]
        simp [he']
    · refine .inr ⟨e, he, ?_⟩
      unfold takeN
      rw [hd]
      simp [he]
theorem getListL_enc (h1 : ∀ a r, ok a → dec (enc a ++ r) = (a, r, 0)) (xs : List α) (r : List UInt8) (hl : xs.length ≤ 1024) (hx : ∀ a ∈ xs, ok a) : getListL dec (listL enc xs ++ r) = (xs, r, 0) := by
  unfold getListL listL
  rw [List.append_assoc, getL_num _ ⟨by omega, by omega⟩]
  simp only
  rw [if_neg (by simp), if_neg (by omega), if_neg (by omega), Int.toNat_natCast]
  exact takeN_enc h1 r xs hx
theorem getListL_inv (h2 : ∀ l, (∃ a r, ok a ∧ l = enc a ++ r ∧ dec l = (a, r, 0)) ∨ ∃ d e, e ≠ 0 ∧ (dec l).2 = (d, e)) (l : List UInt8) :
    (∃ xs r, xs.length ≤ 1024 ∧ (∀ a ∈ xs, ok a) ∧ l = listL enc xs ++ r ∧ getListL dec l = (xs, r, 0)) ∨ ∃ e, e ≠ 0 ∧ getListL dec l = ([], [], e) := by
  unfold getListL
  rcases getL_inv l with ⟨n, r, hn, e, he⟩ | ⟨e, h, he⟩
  · rw [he]
    simp only
    rw [if_neg (by simp)]
    by_cases c1 : n < 0
    · exact .inr ⟨7, by decide, if_pos c1⟩
    rw [if_neg c1]
    by_cases c2 : 1024 < n
    · exact .inr ⟨12, by decide, if_pos c2⟩
    rw [if_neg c2]
    rcases takeN_inv h2 n.toNat r with ⟨xs, q, hl, hx, er, ht⟩ | ⟨e', he', ht⟩
    · refine .inl ⟨xs, q, by omega, hx, ?_, ht⟩
      rw [e, er]
      unfold listL
      rw [show ((xs.length : Nat) : Int) = n from by omega, List.append_assoc]
    · exact .inr ⟨e', he', ht⟩
  · rw [he]
    simp only
    rw [if_pos (by omega)]
    exact .inr ⟨e, by omega, rfl⟩
end
/-- Texts. -/
def encT (s : ByteArray) : List UInt8 := textL s.data.toList
def decT (l : List UInt8) : ByteArray × List UInt8 × Int := (B (getTL l).1, (getTL l).2.1, (getTL l).2.2)
def okT (s : ByteArray) : Prop := s.data.toList.length ≤ 4096
theorem decT_enc (a : ByteArray) (r : List UInt8) (h : okT a) : decT (encT a ++ r) = (a, r, 0) := by
  unfold decT encT
  rw [getTL_text _ r h]
  simp [B_data]
theorem decT_inv (l : List UInt8) : (∃ a r, okT a ∧ l = encT a ++ r ∧ decT l = (a, r, 0)) ∨ ∃ d e, e ≠ 0 ∧ (decT l).2 = (d, e) := by
  rcases getTL_inv l with ⟨t, r, ht, e, h⟩ | ⟨e, he, h⟩
  · refine .inl ⟨B t, r, by unfold okT; rw [B_toList]; exact ht, by unfold encT; rw [B_toList]; exact e, ?_⟩
    unfold decT
    rw [h]
  · refine .inr ⟨[], e, by omega, ?_⟩
    unfold decT
    rw [h]
theorem getL_enc (a : Int) (r : List UInt8) (h : Fits a) : getL (numL a ++ r) = (a, r, 0) := getL_num a h r
theorem getL_inv2 (l : List UInt8) : (∃ a r, Fits a ∧ l = numL a ++ r ∧ getL l = (a, r, 0)) ∨ ∃ d e, e ≠ 0 ∧ (getL l).2 = (d, e) := by
  rcases getL_inv l with ⟨n, r, hn, e, he⟩ | ⟨e, h, he⟩
  · exact .inl ⟨n, r, hn, e, he⟩
  · exact .inr ⟨[], e, by omega, by rw [he]⟩
end Go.Proofs.Ytddjklpkhdhfkaa.Wire
