/- A part. -/
import Derived.Test.YtbfabclpcamlnaaGreatDoorPG
set_option linter.unusedVariables false
set_option linter.unusedSimpArgs false
namespace Go.Proofs.YtbfabclpcamlnaaGreatDoor
theorem Et {σ ρ : Type} {S : σ → Option (σ ⊕ ρ)} (I : σ → Prop) (Q : ρ → Prop) (μ : σ → Nat) (h : ∀ x, I x → (∃ y, S x = some (.inl y) ∧ I y ∧ μ y < μ x) ∨ (∃ r, S x = some (.inr r) ∧ Q r)) : ∀ (n : Nat) (x : σ), I x → μ x < n → ∃ r, Ba S n x = some r ∧ Q r
  | 0, x, _, hn => absurd hn (Nat.not_lt_zero _)
  | n + 1, x, hI, hn => by
    unfold Ba
    rcases h x hI with ⟨y, e, hy, hlt⟩ | ⟨r, e, hr⟩
    · rw [e]; exact Et I Q μ h n y hy (by omega)
    · rw [e]; exact ⟨r, rfl, hr⟩
theorem G4 {σ ρ : Type} {S : σ → Option (σ ⊕ ρ)} (I : σ → Prop) (r : ρ) (μ : σ → Nat) (h : ∀ x, I x → (∃ y, S x = some (.inl y) ∧ I y ∧ μ y < μ x) ∨ S x = some (.inr r)) (n : Nat) (x : σ) (hI : I x) (hn : μ x < n) : Ba S n x = some r := by
  obtain ⟨r', h1, h2⟩ := Et I (· = r) μ (fun x hx => (h x hx).imp id fun h => ⟨r, h, rfl⟩) n x hI hn
  rw [h1, h2]
def Ac1 {α σ ρ : Type} (f : σ → α → σ ⊕ ρ) (g : σ → ρ) : σ → List α → ρ
  | s, [] => g s
  | s, x :: r => match f s x with
    | .inl s' => Ac1 f g s' r
    | .inr q => q
theorem Cw {α : Type} {l : List α} {i : Nat} {x : α} (h : l[i]? = some x) : Bt l (i : Int) = some x := by rw [Rs]; exact h
theorem wS {i : Nat} (h : i < 9223372036854775807) : IntKind.wrap .i64 ((i : Int) + 1) = ((i + 1 : Nat) : Int) := wrap64 (by omega) (by omega)
theorem Dn {α : Type} {l : List α} {i : Nat} {x : α} (h : l[i]? = some x) : i < l.length := by
  rcases Nat.lt_or_ge i l.length with h' | h'
  · exact h'
  · rw [List.getElem?_eq_none h'] at h; cases h
def Em {α : Type} (p : α → Bool) : List α → Int
  | [] => -1
  | x :: r => if p x then 0 else (if Em p r < 0 then -1 else Em p r + 1)
theorem Qb {α : Type} (p : α → Bool) : ∀ l : List α, -1 ≤ Em p l ∧ Em p l < (l.length : Int)
  | [] => by simp [Em]
  | x :: r => by
    have := Qb p r
    simp only [Em, List.length_cons]
    split
    · omega
    · split <;> omega
theorem Jx {α : Type} (p : α → Bool) : ∀ l : List α, Em p l < 0 ↔ ∀ x ∈ l, p x = false
  | [] => by simp [Em]
  | x :: r => by
    have ih := Jx p r
    simp only [Em]
    cases hp : p x with
    | true => simp [hp]
    | false =>
      simp only [Bool.false_eq_true, if_false]
      constructor
      · intro h y hy
        rcases List.mem_cons.1 hy with rfl | hy
        · exact hp
        · refine ih.1 ?_ y hy
          split at h
          · assumption
          · omega
      · intro h
        have := ih.2 fun y hy => h y (by simp [hy])
        rw [if_pos this]; omega
theorem Qf {α : Type} (p : α → Bool) : ∀ (l : List α), 0 ≤ Em p l → ∃ x, l[(Em p l).toNat]? = some x ∧ p x = true ∧ ∀ j, j < (Em p l).toNat → ∀ y, l[j]? = some y → p y = false
  | [], h => by simp [Em] at h
  | x :: r, h => by
    simp only [Em] at h ⊢
    cases hp : p x with
    | true => exact ⟨x, by simp [hp], hp, fun j hj => by simp [hp] at hj⟩
    | false =>
      rw [hp] at h
      simp only [Bool.false_eq_true, if_false] at h ⊢
      split at h
      · omega
      · rename_i h'
        rw [if_neg h']
        obtain ⟨y, h1, h2, h3⟩ := Qf p r (by omega)
        have e : (Em p r + 1).toNat = (Em p r).toNat + 1 := by omega
        rw [e]
        refine ⟨y, by simpa using h1, h2, fun j hj z hz => ?_⟩
        cases j with
        | zero => simp at hz; rw [← hz]; exact hp
        | succ j => exact h3 j (by omega) z (by simpa using hz)
theorem Jk {α : Type} (p : α → Bool) (l : List α) (hl : l.length ≤ 9223372036854775807) {S : Int → Option (Int ⊕ Int)} (h : ∀ (i : Nat) (x : α), l[i]? = some x → S i = some (if p x then .inr (i : Int) else .inl ((i + 1 : Nat) : Int))) (h0 : S l.length = some (.inr (-1))) (n : Nat) (hn : l.length < n) : Ba S n 0 = some (Em p l) := by
  have key : ∀ (n i : Nat), i ≤ l.length → l.length - i < n → Ba S n (i : Int) = some (if Em p (l.drop i) < 0 then -1 else Em p (l.drop i) + i) := by
    intro n
    induction n with
    | zero => intro i _ h; omega
    | succ n ih =>
      intro i hi hn
      unfold Ba
      rcases Nat.lt_or_ge i l.length with hlt | hge
      · rw [h i _ (List.getElem?_eq_getElem hlt), List.drop_eq_getElem_cons hlt]
        simp only [Em]
        by_cases hp : p l[i] = true
        · simp [hp]
        · simp only [hp, if_false, Bool.false_eq_true]
          rw [ih (i + 1) hlt (by omega)]
          congr 1
          by_cases hq : Em p (l.drop (i + 1)) < 0
          · simp [hq]
          · simp only [hq, if_false]; rw [if_neg (by omega)]; omega
      · have : i = l.length := by omega
        subst this
        rw [h0]
        simp [Em]
  have e : Ba S n 0 = _ := key n 0 (Nat.zero_le _) (by omega)
  rw [e, List.drop_zero]
  congr 1
  have := Qb p l
  split
  · omega
  · simp
end Go.Proofs.YtbfabclpcamlnaaGreatDoor
