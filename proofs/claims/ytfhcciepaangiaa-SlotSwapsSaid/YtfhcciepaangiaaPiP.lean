/- Sorting as a plain program: what it answers. -/
import Derived.Test.YtfhcciepaangiaaPi29
set_option linter.unusedVariables false
set_option linter.unusedSimpArgs false
namespace Go.Proofs.Ytfhcciepaangiaa
def insB {α : Type} (lt : α → α → Bool) (x : α) : List α → List α
  | [] => [x]
  | y :: r => bif lt x y then x :: y :: r else y :: insB lt x r
def isortB {α : Type} (lt : α → α → Bool) : List α → List α
  | [] => []
  | x :: r => insB lt x (isortB lt r)
def ltO {α : Type} (cmp : α → α → Option Int) (x y : α) : Bool := decide ((cmp x y).getD 0 < 0)
/- the comparison answers at all elements, and is a strict total order of them -/
def orderB {α : Type} [DecidableEq α] (cmp : α → α → Option Int) (l : List α) : Bool :=
  (l.all fun x => l.all fun y => (cmp x y).isSome && (ltO cmp x y || ltO cmp y x || decide (x = y)) && !(ltO cmp x y && ltO cmp y x)) && (l.all fun x => l.all fun y => l.all fun z => !(ltO cmp x y && ltO cmp y z) || ltO cmp x z)
def sortO {α : Type} [DecidableEq α] (cmp : α → α → Option Int) (l : List α) : Option (List α) := bif orderB cmp l && decide (l.length < 4611686018427387904) then some (isortB (ltO cmp) l) else none
section
variable {α : Type}
theorem insB_perm (lt : α → α → Bool) (x : α) : ∀ l : List α, (insB lt x l).Perm (x :: l)
  | [] => List.Perm.refl _
  | y :: r => by
    unfold insB
    cases lt x y with
    | true => exact List.Perm.refl _
    | false => exact ((insB_perm lt x r).cons y).trans (List.Perm.swap x y r)
theorem isortB_perm (lt : α → α → Bool) : ∀ l : List α, (isortB lt l).Perm l
  | [] => List.Perm.refl _
  | x :: r => (insB_perm lt x _).trans ((isortB_perm lt r).cons x)
theorem insB_sorted {lt : α → α → Bool} (x : α) : ∀ l : List α, (∀ y ∈ l, ∀ z ∈ l, lt x y = true → lt z y = false → lt z x = false) → (∀ y ∈ l, lt x y = true → lt y x = false) → l.Pairwise (fun a b => lt b a = false) → (insB lt x l).Pairwise (fun a b => lt b a = false)
  | [], _, _, _ => by simp [insB]
  | y :: r, h1, h2, hp => by
    rw [List.pairwise_cons] at hp
    unfold insB
    cases hx : lt x y with
    | true =>
      simp only [cond_true]
      rw [List.pairwise_cons]
      refine ⟨fun z hz => ?_, List.pairwise_cons.2 hp⟩
      rcases List.mem_cons.1 hz with rfl | hz
      · exact h2 z (by simp) hx
      · exact h1 y (by simp) z (by simp [hz]) hx (hp.1 z hz)
    | false =>
      simp only [cond_false]
      rw [List.pairwise_cons]
      refine ⟨fun z hz => ?_, insB_sorted x r (fun a ha b hb => h1 a (by simp [ha]) b (by simp [hb])) (fun a ha => h2 a (by simp [ha])) hp.2⟩
      rcases List.mem_cons.1 ((insB_perm lt x r).mem_iff.1 hz) with rfl | hz
      · exact hx
      · exact hp.1 z hz
theorem sorted_unique {R : α → α → Prop} : ∀ {l k : List α}, (∀ x ∈ l, ∀ y ∈ l, R x y → R y x → x = y) → l.Perm k → l.Pairwise R → k.Pairwise R → l = k
  | [], k, _, hp, _, _ => (List.nil_perm.1 hp).symm
  | a :: l, [], _, hp, _, _ => by simp at hp
  | a :: l, b :: k, ha, hp, h1, h2 => by
    have hab : a = b := by
      have m1 : a ∈ b :: k := hp.mem_iff.1 (by simp)
      have m2 : b ∈ a :: l := hp.mem_iff.2 (by simp)
      rcases List.mem_cons.1 m1 with h | h
      · exact h
      · rcases List.mem_cons.1 m2 with h' | h'
        · exact h'.symm
        · exact ha a (by simp) b (by simp [h']) ((List.pairwise_cons.1 h1).1 b h') ((List.pairwise_cons.1 h2).1 a h)
    subst hab
    rw [sorted_unique (fun x hx y hy => ha x (by simp [hx]) y (by simp [hy])) (List.perm_cons a |>.1 hp) (List.pairwise_cons.1 h1).2 (List.pairwise_cons.1 h2).2]
structure OrdOn (cmp : α → α → Option Int) (l : List α) : Prop where
  some : ∀ x ∈ l, ∀ y ∈ l, ∃ z, cmp x y = some z
  tot : ∀ x ∈ l, ∀ y ∈ l, ltO cmp x y = true ∨ ltO cmp y x = true ∨ x = y
  asy : ∀ x ∈ l, ∀ y ∈ l, ltO cmp x y = true → ltO cmp y x = false
  tra : ∀ x ∈ l, ∀ y ∈ l, ∀ z ∈ l, ltO cmp x y = true → ltO cmp y z = true → ltO cmp x z = true
theorem orderB_on [DecidableEq α] {cmp : α → α → Option Int} {l : List α} : orderB cmp l = true ↔ OrdOn cmp l := by
  unfold orderB
  simp only [Bool.and_eq_true, List.all_eq_true, Bool.or_eq_true, decide_eq_true_eq, Bool.not_eq_true', Option.isSome_iff_exists]
  constructor
  · rintro ⟨h1, h2⟩
    refine ⟨fun x hx y hy => (h1 x hx y hy).1.1, fun x hx y hy => ?_, fun x hx y hy h => ?_, fun x hx y hy z hz a b => ?_⟩
    · rcases (h1 x hx y hy).1.2 with (h | h) | h
      · exact .inl h
      · exact .inr (.inl h)
      · exact .inr (.inr h)
    · have := (h1 x hx y hy).2
      rw [h] at this; simpa using this
    · rcases h2 x hx y hy z hz with h | h
      · rw [a, b] at h; cases h
      · exact h
  · intro h
    refine ⟨fun x hx y hy => ⟨⟨h.some x hx y hy, ?_⟩, ?_⟩, fun x hx y hy z hz => ?_⟩
    · rcases h.tot x hx y hy with k | k | k
      · exact .inl (.inl k)
      · exact .inl (.inr k)
      · exact .inr k
    · cases ha : ltO cmp x y with
      | false => rfl
      | true => rw [h.asy x hx y hy ha]; rfl
    · cases ha : ltO cmp x y with
      | false => exact .inl rfl
      | true =>
        cases hb : ltO cmp y z with
        | false => exact .inl rfl
        | true => exact .inr (h.tra x hx y hy z hz ha hb)
theorem OrdOn.irr {cmp : α → α → Option Int} {l : List α} (h : OrdOn cmp l) {x : α} (hx : x ∈ l) : ltO cmp x x = false := by
  cases ha : ltO cmp x x with
  | false => rfl
  | true => have := h.asy x hx x hx ha; rw [ha] at this; cases this
theorem OrdOn.nle {cmp : α → α → Option Int} {l : List α} (h : OrdOn cmp l) {x y z : α} (hx : x ∈ l) (hy : y ∈ l) (hz : z ∈ l) (a : ltO cmp x y = false) (b : ltO cmp y z = false) : ltO cmp x z = false := by
  cases hc : ltO cmp x z with
  | false => rfl
  | true =>
    rcases h.tot y hy z hz with k | k | k
    · rw [k] at b; cases b
    · have := h.tra x hx z hz y hy hc k; rw [this] at a; cases a
    · subst k; rw [hc] at a; cases a
theorem isortB_sorted {cmp : α → α → Option Int} {l : List α} (h : OrdOn cmp l) : ∀ k : List α, (∀ x ∈ k, x ∈ l) → (isortB (ltO cmp) k).Pairwise (fun a b => ltO cmp b a = false)
  | [], _ => .nil
  | x :: k, hk => by
    have hx := hk x (by simp)
    have hin : ∀ y ∈ isortB (ltO cmp) k, y ∈ l := fun y hy => hk y (by simp [(isortB_perm (ltO cmp) k).mem_iff.1 hy])
    refine insB_sorted x _ (fun y hy z hz a b => ?_) (fun y hy a => h.asy x hx y (hin y hy) a) (isortB_sorted h k fun y hy => hk y (by simp [hy]))
    exact h.nle (hin z hz) (hin y hy) hx b (h.asy x hx y (hin y hy) a)
theorem sortO_facts [DecidableEq α] {cmp : α → α → Option Int} {l l' : List α} (h : sortO cmp l = some l') : l'.Perm l ∧ l'.Pairwise (fun a b => ltO cmp b a = false) ∧ OrdOn cmp l := by
  unfold sortO at h
  cases hc : orderB cmp l && decide (l.length < 4611686018427387904) with
  | false => rw [hc] at h; cases h
  | true =>
    rw [hc] at h
    simp only [Bool.and_eq_true] at hc
    have ho := orderB_on.1 hc.1
    have := Option.some.inj h
    subst this
    exact ⟨isortB_perm _ l, isortB_sorted ho l (fun _ hx => hx), ho⟩
end
end Go.Proofs.Ytfhcciepaangiaa
