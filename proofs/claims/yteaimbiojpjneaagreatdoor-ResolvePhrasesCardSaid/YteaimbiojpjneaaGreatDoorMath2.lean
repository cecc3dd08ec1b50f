/- Plain programs: loops of common shapes, lists, texts in order. -/
import Derived.Test.YteaimbiojpjneaaGreatDoorMath
set_option linter.unusedVariables false
set_option linter.unusedSimpArgs false
namespace Go.Proofs.YteaimbiojpjneaaGreatDoor

theorem room_of {k by_ : Nat} (h1 : k * by_ ≤ 140737488355328) (h2 : k ≤ 4611686018427387904) : roomO k by_ = some () := by simp [roomO, h1, h2]
theorem slice_hi {α : Type} (l : List α) (i : Nat) (h : i ≤ l.length) : sliceO l none (some (i : Int)) = some (l.take i) := by
  simp only [sliceO, Option.getD_none, Option.getD_some]
  rw [if_pos ⟨Int.le_refl _, by omega, by omega⟩]
  simp
/- texts in order -/
theorem less_irr : ∀ a : List UInt8, Op.bytesLess a a = false
  | [] => rfl
  | a :: r => by simp [Op.bytesLess, less_irr r]
theorem less_asy : ∀ a b : List UInt8, Op.bytesLess a b = true → Op.bytesLess b a = false
  | _, [], h => by simp [Op.bytesLess] at h
  | [], b :: s, _ => rfl
  | a :: r, b :: s, h => by
    simp only [Op.bytesLess, Bool.or_eq_true, Bool.and_eq_true, decide_eq_true_eq, beq_iff_eq] at h
    simp only [Op.bytesLess, Bool.or_eq_false_iff, decide_eq_false_iff_not, Bool.and_eq_false_iff]
    rcases h with h | ⟨rfl, h⟩
    · exact ⟨by simpa using UInt8.le_of_lt h, .inl (by simp; rintro rfl; exact absurd h (UInt8.lt_irrefl _))⟩
    · exact ⟨by simp, .inr (less_asy r s h)⟩
theorem less_tot : ∀ a b : List UInt8, Op.bytesLess a b = true ∨ Op.bytesLess b a = true ∨ a = b
  | [], [] => .inr (.inr rfl)
  | [], b :: s => .inl rfl
  | a :: r, [] => .inr (.inl rfl)
  | a :: r, b :: s => by
    simp only [Op.bytesLess, Bool.or_eq_true, Bool.and_eq_true, decide_eq_true_eq, beq_iff_eq, List.cons.injEq]
    rcases Nat.lt_trichotomy a.toNat b.toNat with h | h | h
    · exact .inl (.inl h)
    · have : a = b := UInt8.toNat_inj.1 h
      subst this
      rcases less_tot r s with h | h | h
      · exact .inl (.inr ⟨rfl, h⟩)
      · exact .inr (.inl (.inr ⟨rfl, h⟩))
      · exact .inr (.inr ⟨rfl, h⟩)
    · exact .inr (.inl (.inl h))
theorem less_tra : ∀ a b c : List UInt8, Op.bytesLess a b = true → Op.bytesLess b c = true → Op.bytesLess a c = true
  | _, _, [], _, h => by simp [Op.bytesLess] at h
  | _, [], _ :: _, h, _ => by simp [Op.bytesLess] at h
  | [], b :: s, c :: t, _, _ => rfl
  | a :: r, b :: s, c :: t, h1, h2 => by
    simp only [Op.bytesLess, Bool.or_eq_true, Bool.and_eq_true, decide_eq_true_eq, beq_iff_eq] at h1 h2 ⊢
    rcases h1 with h1 | ⟨rfl, h1⟩
    · rcases h2 with h2 | ⟨rfl, h2⟩
      · exact .inl (UInt8.lt_trans h1 h2)
      · exact .inl h1
    · rcases h2 with h2 | ⟨rfl, h2⟩
      · exact .inl h2
      · exact .inr ⟨rfl, less_tra r s t h1 h2⟩
def cmpC (a b : ByteArray) : Int := if Op.bytesLess a.toList b.toList then -1 else if Op.bytesLess b.toList a.toList then 1 else 0
theorem pw_inj {α β : Type} (f : α → β) : ∀ {L : List α}, L.Pairwise (fun x y => f x ≠ f y) → ∀ x ∈ L, ∀ y ∈ L, f x = f y → x = y
  | [], _, x, hx, _, _, _ => by simp at hx
  | a :: r, h, x, hx, y, hy, e => by
    rw [List.pairwise_cons] at h
    rcases List.mem_cons.1 hx with h1 | h1 <;> rcases List.mem_cons.1 hy with h2 | h2
    · rw [h1, h2]
    · subst h1; exact absurd e (h.1 y h2)
    · subst h2; exact absurd e.symm (h.1 x h1)
    · exact pw_inj f h.2 x h1 y h2 e
theorem getI_set {α : Type} {L : List α} {i : Nat} {y : α} (h : i < L.length) : getI (L.set i y) (i : Int) = some y := by rw [getI_nat]; simp [h]
theorem getI_setne {α : Type} {L : List α} {i j : Nat} {y : α} (h : j ≠ i) : getI (L.set i y) (j : Int) = L[j]? := by rw [getI_nat, List.getElem?_set_ne (Ne.symm h)]

/- a loop that looks at each element, and ends early where one is bad -/
theorem iter_each {α ρ : Type} {S : Int → Option (Int ⊕ ρ)} (l : List α) (P : Nat → α → Prop) (bad : ρ → Prop) (good : ρ) (h : ∀ (i : Nat) (x : α), l[i]? = some x → (S (i : Int) = some (.inl ((i + 1 : Nat) : Int)) ∧ P i x) ∨ ∃ r, S (i : Int) = some (.inr r) ∧ bad r) (h0 : S (l.length : Int) = some (.inr good)) (n : Nat) (hn : l.length < n) :
    ∃ r, iterO S n 0 = some r ∧ (bad r ∨ r = good ∧ ∀ (i : Nat) (x : α), l[i]? = some x → P i x) := by
  refine iterO_rule (fun x => ∃ i : Nat, i ≤ l.length ∧ x = (i : Int) ∧ ∀ (j : Nat) (x : α), j < i → l[j]? = some x → P j x) _ (fun x => l.length - x.toNat) ?_ n _ ⟨0, Nat.zero_le _, rfl, fun j x h => absurd h (Nat.not_lt_zero _)⟩ (by simpa using hn)
  rintro _ ⟨i, hi, rfl, hP⟩
  rcases Nat.lt_or_ge i l.length with hlt | hge
  · rcases h i _ (List.getElem?_eq_getElem hlt) with ⟨k, k1⟩ | ⟨r, k, k1⟩
    · refine .inl ⟨_, k, ⟨i + 1, hlt, rfl, fun j x hj hx => ?_⟩, by simp; omega⟩
      rcases Nat.lt_or_ge j i with h' | h'
      · exact hP j x h' hx
      · have : j = i := by omega
        subst this
        rw [List.getElem?_eq_getElem hlt] at hx
        cases hx
        exact k1
    · exact .inr ⟨r, k, .inl k1⟩
  · have : i = l.length := by omega
    subst this
    exact .inr ⟨good, h0, .inr ⟨rfl, fun j x hx => hP j x (some_lt hx) hx⟩⟩
/- the same where the answer is known -/
theorem iter_all {α ρ : Type} {S : Int → Option (Int ⊕ ρ)} (l : List α) (ok : α → Bool) (bad : α → ρ) (good : ρ) (h : ∀ (i : Nat) (x : α), l[i]? = some x → S (i : Int) = some (if ok x then .inl ((i + 1 : Nat) : Int) else .inr (bad x))) (h0 : S (l.length : Int) = some (.inr good)) (n : Nat) (hn : l.length < n) :
    iterO S n 0 = some (match l.find? (fun x => !ok x) with | some x => bad x | none => good) := by
  refine iterO_eq (fun x => ∃ i : Nat, i ≤ l.length ∧ x = (i : Int) ∧ l.find? (fun x => !ok x) = (l.drop i).find? (fun x => !ok x)) _ (fun x => l.length - x.toNat) ?_ n _ ⟨0, Nat.zero_le _, rfl, rfl⟩ (by simpa using hn)
  rintro _ ⟨i, hi, rfl, hP⟩
  rcases Nat.lt_or_ge i l.length with hlt | hge
  · have hx : l[i]? = some l[i] := List.getElem?_eq_getElem hlt
    have hd := List.drop_eq_getElem_cons hlt
    generalize l[i] = x at hx hd
    have k := h i x hx
    rw [hd, List.find?_cons] at hP
    cases hok : ok x with
    | true =>
      rw [hok] at k hP
      exact .inl ⟨_, k, ⟨i + 1, hlt, rfl, by simpa using hP⟩, by simp; omega⟩
    | false =>
      rw [hok] at k hP
      right
      rw [k, hP]; rfl
  · have : i = l.length := by omega
    subst this
    rw [List.drop_length] at hP
    right
    rw [h0, hP]; rfl
/- a loop that makes a list, element for element, and ends early where one is bad -/
theorem iter_map {α β ρ : Type} {S : Int × List β → Option ((Int × List β) ⊕ ρ)} (l : List α) (f : α → β) (ok : α → Bool) (bad : α → ρ) (good : ρ) (h : ∀ (i : Nat) (x : α) (L : List β), l[i]? = some x → L.length = i → S ((i : Int), L) = some (if ok x then .inl (((i + 1 : Nat) : Int), L ++ [f x]) else .inr (bad x))) (h0 : S ((l.length : Int), l.map f) = some (.inr good)) (n : Nat) (hn : l.length < n) :
    iterO S n (0, []) = some (match l.find? (fun x => !ok x) with | some x => bad x | none => good) := by
  refine iterO_eq (fun x => ∃ i : Nat, i ≤ l.length ∧ x = ((i : Int), (l.take i).map f) ∧ l.find? (fun x => !ok x) = (l.drop i).find? (fun x => !ok x)) _ (fun x => l.length - x.1.toNat) ?_ n _ ⟨0, Nat.zero_le _, rfl, rfl⟩ (by simpa using hn)
  rintro _ ⟨i, hi, rfl, hP⟩
  rcases Nat.lt_or_ge i l.length with hlt | hge
  · have hx : l[i]? = some l[i] := List.getElem?_eq_getElem hlt
    have hd := List.drop_eq_getElem_cons hlt
    have ht := List.take_succ_eq_append_getElem hlt
    generalize l[i] = x at hx hd ht
    have k := h i x ((l.take i).map f) hx (by simp; omega)
    rw [hd, List.find?_cons] at hP
    cases hok : ok x with
    | true =>
      rw [hok] at k hP
      exact .inl ⟨_, k, ⟨i + 1, hlt, by rw [ht, List.map_append]; rfl, by simpa using hP⟩, by simp; omega⟩
    | false =>
      rw [hok] at k hP
      right
      rw [k, hP]; rfl
  · have : i = l.length := by omega
    subst this
    rw [List.drop_length] at hP
    rw [List.take_length]
    right
    rw [h0, hP]; rfl
theorem find_none {α : Type} {ok : α → Bool} {l : List α} : l.find? (fun x => !ok x) = none ↔ ∀ x ∈ l, ok x = true := by
  rw [List.find?_eq_none]; simp
theorem find_some {α : Type} {ok : α → Bool} {l : List α} {x : α} (h : l.find? (fun x => !ok x) = some x) : x ∈ l ∧ ok x = false := ⟨List.mem_of_find?_eq_some h, by simpa using List.find?_some h⟩
/- equality of two lists -/
theorem equal_loop {α : Type} [DecidableEq α] (a b : List α) (hl : a.length = b.length) {S : Int → Option (Int ⊕ Bool)} (h : ∀ (i : Nat) (x y : α), a[i]? = some x → b[i]? = some y → S (i : Int) = some (if x = y then .inl ((i + 1 : Nat) : Int) else .inr false)) (h0 : S (a.length : Int) = some (.inr true)) (n : Nat) (hn : a.length < n) : iterO S n 0 = some (decide (a = b)) := by
  refine iterO_eq (fun x => ∃ i : Nat, i ≤ a.length ∧ x = (i : Int) ∧ a.take i = b.take i) _ (fun x => a.length - x.toNat) ?_ n _ ⟨0, Nat.zero_le _, rfl, rfl⟩ (by simpa using hn)
  rintro _ ⟨i, hi, rfl, hP⟩
  rcases Nat.lt_or_ge i a.length with hlt | hge
  · have hx := List.getElem?_eq_getElem hlt
    have hy := List.getElem?_eq_getElem (l := b) (i := i) (by omega)
    have ha := List.take_succ_eq_append_getElem hlt
    have hb := List.take_succ_eq_append_getElem (l := b) (i := i) (by omega)
    have k := h i _ _ hx hy
    by_cases e : a[i] = b[i]
    · rw [if_pos e] at k
      exact .inl ⟨_, k, ⟨i + 1, hlt, rfl, by rw [ha, hb, hP, e]⟩, by simp; omega⟩
    · rw [if_neg e] at k
      right
      rw [k, decide_eq_false]
      intro q
      subst q
      exact e rfl
  · have : i = a.length := by omega
    subst this
    rw [List.take_length, hl, List.take_length] at hP
    right
    rw [h0, decide_eq_true hP]
theorem isort_of_sorted {α : Type} [DecidableEq α] {cmp : α → α → Option Int} {l k : List α} (ho : OrdOn cmp l) (hp : k.Perm l) (hs : k.Pairwise (fun a b => ltO cmp b a = false)) (hl : l.length < 4611686018427387904) : sortO cmp l = some k := by
  have e : sortO cmp l = some (isortB (ltO cmp) l) := by
    unfold sortO
    rw [orderB_on.2 ho, decide_eq_true hl]; rfl
  obtain ⟨p1, p2, -⟩ := sortO_facts e
  rw [e]
  congr 1
  refine sorted_unique (R := fun a b => ltO cmp b a = false) (fun x hx y hy h1 h2 => ?_) (p1.trans hp.symm) p2 hs
  have hx' := p1.mem_iff.1 hx
  have hy' := p1.mem_iff.1 hy
  rcases ho.tot x hx' y hy' with h | h | h
  · rw [h] at h2; cases h2
  · rw [h] at h1; cases h1
  · exact h
end Go.Proofs.YteaimbiojpjneaaGreatDoor
