/- A part. -/
import Derived.Test.YtbfabclpcamlnaaGreatDoorMath
set_option linter.unusedVariables false
set_option linter.unusedSimpArgs false
namespace Go.Proofs.YtbfabclpcamlnaaGreatDoor
theorem Jg {k by_ : Nat} (h1 : k * by_ ≤ 140737488355328) (h2 : k ≤ 4611686018427387904) : Gb k by_ = some () := by simp [Gb, h1, h2]
theorem oA {α : Type} (l : List α) (i : Nat) (h : i ≤ l.length) : Eb l none (some (i : Int)) = some (l.take i) := by
  simp only [Eb, Option.getD_none, Option.getD_some]
  rw [if_pos ⟨Int.le_refl _, by omega, by omega⟩]
  simp
theorem Qu : ∀ a : List UInt8, Op.bytesLess a a = false
  | [] => rfl
  | a :: r => by simp [Op.bytesLess, Qu r]
theorem Rh : ∀ a b : List UInt8, Op.bytesLess a b = true → Op.bytesLess b a = false
  | _, [], h => by simp [Op.bytesLess] at h
  | [], b :: s, _ => rfl
  | a :: r, b :: s, h => by
    simp only [Op.bytesLess, Bool.or_eq_true, Bool.and_eq_true, decide_eq_true_eq, beq_iff_eq] at h
    simp only [Op.bytesLess, Bool.or_eq_false_iff, decide_eq_false_iff_not, Bool.and_eq_false_iff]
    rcases h with h | ⟨rfl, h⟩
    · exact ⟨by simpa using UInt8.le_of_lt h, .inl (by simp; rintro rfl; exact absurd h (UInt8.lt_irrefl _))⟩
    · exact ⟨by simp, .inr (Rh r s h)⟩
theorem Rm : ∀ a b : List UInt8, Op.bytesLess a b = true ∨ Op.bytesLess b a = true ∨ a = b
  | [], [] => .inr (.inr rfl)
  | [], b :: s => .inl rfl
  | a :: r, [] => .inr (.inl rfl)
  | a :: r, b :: s => by
    simp only [Op.bytesLess, Bool.or_eq_true, Bool.and_eq_true, decide_eq_true_eq, beq_iff_eq, List.cons.injEq]
    rcases Nat.lt_trichotomy a.toNat b.toNat with h | h | h
    · exact .inl (.inl h)
    · have : a = b := UInt8.toNat_inj.1 h
      subst this
      rcases Rm r s with h | h | h
      · exact .inl (.inr ⟨rfl, h⟩)
      · exact .inr (.inl (.inr ⟨rfl, h⟩))
      · exact .inr (.inr ⟨rfl, h⟩)
    · exact .inr (.inl (.inl h))
theorem Yc : ∀ a b c : List UInt8, Op.bytesLess a b = true → Op.bytesLess b c = true → Op.bytesLess a c = true
  | _, _, [], _, h => by simp [Op.bytesLess] at h
  | _, [], _ :: _, h, _ => by simp [Op.bytesLess] at h
  | [], b :: s, c :: t, _, _ => rfl
  | a :: r, b :: s, c :: t, h1, h2 => by
    simp only [Op.bytesLess, Bool.or_eq_true, Bool.and_eq_true, decide_eq_true_eq, beq_iff_eq] at h1 h2 ⊢
    rcases h1 with h1 | ⟨rfl, h1⟩
    · rcases h2 with h2 | ⟨rfl, h2⟩
      · exact .inl (UInt8.lt_trans h1 h2)
      · exact .inl h1
    · rcases h2 with h2 | ⟨rfl, h2⟩
      · exact .inl h2
      · exact .inr ⟨rfl, Yc r s t h1 h2⟩
def sD (a b : ByteArray) : Int := if Op.bytesLess a.toList b.toList then -1 else if Op.bytesLess b.toList a.toList then 1 else 0
theorem Fj {α ρ : Type} {S : Int → Option (Int ⊕ ρ)} (l : List α) (P : Nat → α → Prop) (bad : ρ → Prop) (Uh : ρ) (h : ∀ (i : Nat) (x : α), l[i]? = some x → (S (i : Int) = some (.inl ((i + 1 : Nat) : Int)) ∧ P i x) ∨ ∃ r, S (i : Int) = some (.inr r) ∧ bad r) (h0 : S (l.length : Int) = some (.inr Uh)) (n : Nat) (hn : l.length < n) :
    ∃ r, Ba S n 0 = some r ∧ (bad r ∨ r = Uh ∧ ∀ (i : Nat) (x : α), l[i]? = some x → P i x) := by
  refine Et (fun x => ∃ i : Nat, i ≤ l.length ∧ x = (i : Int) ∧ ∀ (j : Nat) (x : α), j < i → l[j]? = some x → P j x) _ (fun x => l.length - x.toNat) ?_ n _ ⟨0, Nat.zero_le _, rfl, fun j x h => absurd h (Nat.not_lt_zero _)⟩ (by simpa using hn)
  rintro _ ⟨i, hi, rfl, hP⟩
  rcases Nat.lt_or_ge i l.length with hlt | hge
  · rcases h i _ (List.getElem?_eq_getElem hlt) with ⟨k, k1⟩ | ⟨r, k, k1⟩
    · refine .inl ⟨_, k, ⟨i + 1, hlt, rfl, fun j x hj hx => ?_⟩, by simp; omega⟩
      rcases Nat.lt_or_ge j i with h' | h'
      · exact hP j x h' hx
      · have : j = i := by omega
        subst this
        rw [List.getElem?_eq_getElem hlt] at hx
        cases hx
        exact k1
    · exact .inr ⟨r, k, .inl k1⟩
  · have : i = l.length := by omega
    subst this
    exact .inr ⟨Uh, h0, .inr ⟨rfl, fun j x hx => hP j x (Dn hx) hx⟩⟩
theorem lE {α ρ : Type} {S : Int → Option (Int ⊕ ρ)} (l : List α) (ok : α → Bool) (bad : α → ρ) (Uh : ρ) (h : ∀ (i : Nat) (x : α), l[i]? = some x → S (i : Int) = some (if ok x then .inl ((i + 1 : Nat) : Int) else .inr (bad x))) (h0 : S (l.length : Int) = some (.inr Uh)) (n : Nat) (hn : l.length < n) :
    Ba S n 0 = some (match l.find? (fun x => !ok x) with | some x => bad x | none => Uh) := by
  refine G4 (fun x => ∃ i : Nat, i ≤ l.length ∧ x = (i : Int) ∧ l.find? (fun x => !ok x) = (l.drop i).find? (fun x => !ok x)) _ (fun x => l.length - x.toNat) ?_ n _ ⟨0, Nat.zero_le _, rfl, rfl⟩ (by simpa using hn)
  rintro _ ⟨i, hi, rfl, hP⟩
  rcases Nat.lt_or_ge i l.length with hlt | hge
  · have hx : l[i]? = some l[i] := List.getElem?_eq_getElem hlt
    have hd := List.drop_eq_getElem_cons hlt
    generalize l[i] = x at hx hd
    have k := h i x hx
    rw [hd, List.find?_cons] at hP
    cases hok : ok x with
    | true =>
      rw [hok] at k hP
      exact .inl ⟨_, k, ⟨i + 1, hlt, rfl, by simpa using hP⟩, by simp; omega⟩
    | false =>
      rw [hok] at k hP
      right
      rw [k, hP]; rfl
  · have : i = l.length := by omega
    subst this
    rw [List.drop_length] at hP
    right
    rw [h0, hP]; rfl
theorem jG {α : Type} {ok : α → Bool} {l : List α} : l.find? (fun x => !ok x) = none ↔ ∀ x ∈ l, ok x = true := by
  rw [List.find?_eq_none]; simp
theorem iJ {α : Type} {ok : α → Bool} {l : List α} {x : α} (h : l.find? (fun x => !ok x) = some x) : x ∈ l ∧ ok x = false := ⟨List.mem_of_find?_eq_some h, by simpa using List.find?_some h⟩
theorem aQ {α : Type} [DecidableEq α] (a b : List α) (hl : a.length = b.length) {S : Int → Option (Int ⊕ Bool)} (h : ∀ (i : Nat) (x y : α), a[i]? = some x → b[i]? = some y → S (i : Int) = some (if x = y then .inl ((i + 1 : Nat) : Int) else .inr false)) (h0 : S (a.length : Int) = some (.inr true)) (n : Nat) (hn : a.length < n) : Ba S n 0 = some (decide (a = b)) := by
  refine G4 (fun x => ∃ i : Nat, i ≤ a.length ∧ x = (i : Int) ∧ a.take i = b.take i) _ (fun x => a.length - x.toNat) ?_ n _ ⟨0, Nat.zero_le _, rfl, rfl⟩ (by simpa using hn)
  rintro _ ⟨i, hi, rfl, hP⟩
  rcases Nat.lt_or_ge i a.length with hlt | hge
  · have hx := List.getElem?_eq_getElem hlt
    have hy := List.getElem?_eq_getElem (l := b) (i := i) (by omega)
    have ha := List.take_succ_eq_append_getElem hlt
    have hb := List.take_succ_eq_append_getElem (l := b) (i := i) (by omega)
    have k := h i _ _ hx hy
    by_cases e : a[i] = b[i]
    · rw [if_pos e] at k
      exact .inl ⟨_, k, ⟨i + 1, hlt, rfl, by rw [ha, hb, hP, e]⟩, by simp; omega⟩
    · rw [if_neg e] at k
      right
      rw [k, decide_eq_false]
      intro q
      subst q
      exact e rfl
  · have : i = a.length := by omega
    subst this
    rw [List.take_length, hl, List.take_length] at hP
    right
    rw [h0, decide_eq_true hP]
end Go.Proofs.YtbfabclpcamlnaaGreatDoor
