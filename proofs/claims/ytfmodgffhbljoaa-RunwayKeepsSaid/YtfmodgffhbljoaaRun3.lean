/- runway.Check, Spans, direction, Safe, Change as plain programs. -/
import Derived.Test.YtfmodgffhbljoaaTab
set_option linter.unusedVariables false
set_option linter.unusedSimpArgs false
namespace Go.Proofs.Ytfmodgffhbljoaa

theorem wrongT_eq (n : Nat) (t : Int) : g42 n t = some (decide (t < 0 ∨ t > 200000)) := by
  unfold g42
  by_cases h : t < 0
  · rw [decide_eq_true h, show decide (t < 0 ∨ t > 200000) = true from decide_eq_true (.inl h)]; rfl
  · rw [decide_eq_false h, cond_false]
    congr 1
    by_cases h2 : t > 200000
    · rw [decide_eq_true h2, show decide (t < 0 ∨ t > 200000) = true from decide_eq_true (.inr h2)]
    · rw [decide_eq_false h2, show decide (t < 0 ∨ t > 200000) = false from decide_eq_false (by omega)]
theorem class2_eq (n : Nat) (w : Int) : g37 n w = some (if 0 ≤ w ∧ w ≤ 3 then 0 else 1) := by
  unfold g37
  by_cases h1 : w < 0
  · rw [decide_eq_true h1, cond_true, if_neg (by omega)]
  · by_cases h2 : w > 3
    · rw [decide_eq_false h1, decide_eq_true h2, cond_false, cond_true, if_neg (by omega)]
    · rw [decide_eq_false h1, decide_eq_false h2, cond_false, cond_false, if_pos (by omega)]
structure MovesOk (l : List TRunwayMove) : Prop where
  len : l.length ≤ 24
  each : ∀ x ∈ l, 0 ≤ x.Time ∧ x.Time ≤ 200000 ∧ 0 ≤ x.Wake ∧ x.Wake ≤ 3
  sorted : ∀ (i : Nat) (x y : TRunwayMove), l[i]? = some x → l[i + 1]? = some y → x.Time ≤ y.Time
theorem moves_tot (n : Nat) (hn : 100 < n) (l : List TRunwayMove) : ∃ z, g40 n l = some z ∧ (z = 0 → MovesOk l) := by
  unfold g40
  by_cases h1 : (l.length : Int) > 24
  · exact ⟨2, by simp [h1], fun h => absurd h (by decide)⟩
  rw [decide_eq_false h1, cond_false]
  have hl : l.length ≤ 24 := by omega
  obtain ⟨r, h, hr⟩ := iter_each (S := fun y : Int => S40_0 n l 0 (l.length : Int) y) l (fun i x => (0 ≤ x.Time ∧ x.Time ≤ 200000 ∧ 0 ≤ x.Wake ∧ x.Wake ≤ 3) ∧ ∀ k y, i = k + 1 → l[k]? = some y → y.Time ≤ x.Time) (fun r => r ≠ 0) 0 (fun i x hx => by
    have hi := some_lt hx
    show S40_0 n l 0 (l.length : Int) (i : Int) = _ ∧ _ ∨ ∃ r, S40_0 n l 0 (l.length : Int) (i : Int) = _ ∧ _
    have hw := class2_eq n x.Wake
    have hend : ∀ u : Option (Int ⊕ Int), u = (bif (x.End != (0)) then (bif (x.End != (1)) then some (.inr (1)) else some (.inl ((i + 1 : Nat) : Int))) else some (.inl ((i + 1 : Nat) : Int))) → u = some (.inl ((i + 1 : Nat) : Int)) ∨ ∃ r : Int, u = some (.inr r) ∧ r ≠ 0 := by
      intro u hu
      rw [hu]
      cases (x.End != (0))
      · exact .inl rfl
      · cases (x.End != (1))
        · exact .inl rfl
        · exact .inr ⟨1, rfl, by decide⟩
    unfold S40_0
    rw [decide_eq_true (show (i : Int) < _ by omega), getI_at hx, wS (by omega)]
    simp only [cond_true, Option.bind_some, wrongT_eq, hw]
    by_cases ht : x.Time < 0 ∨ x.Time > 200000
    · rw [decide_eq_true ht]; exact .inr ⟨12, rfl, by decide⟩
    rw [decide_eq_false ht]
    simp only [cond_false]
    rcases Nat.eq_zero_or_pos i with h0 | h0
    · subst h0
      rw [decide_eq_false (show ¬ (((0 : Nat) : Int) > 0) by decide)]
      simp only [cond_false]
      by_cases hc : 0 ≤ x.Wake ∧ x.Wake ≤ 3
      · rw [if_pos hc]
        simp only [bne_self_eq_false, cond_false]
        rcases hend _ rfl with e | ⟨r, e, hr⟩
        · exact .inl ⟨e, ⟨by omega, by omega, hc.1, hc.2⟩, fun k y hk => by omega⟩
        · exact .inr ⟨r, e, hr⟩
      · rw [if_neg hc]; exact .inr ⟨1, rfl, by decide⟩
    · obtain ⟨k, rfl⟩ : ∃ k, i = k + 1 := ⟨i - 1, by omega⟩
      have hp : l[k]? = some (l[k]'(by omega)) := List.getElem?_eq_getElem (by omega)
      generalize l[k]'(by omega) = p at hp
      have e2 : IntKind.wrap .i64 (((k + 1 : Nat) : Int) - 1) = (k : Int) := by rw [wrap64 (by omega) (by omega)]; omega
      rw [decide_eq_true (show ((k + 1 : Nat) : Int) > 0 by omega), e2, getI_at hp]
      simp only [cond_true, Option.bind_some]
      by_cases hs : x.Time < p.Time
      · rw [decide_eq_true hs]; exact .inr ⟨12, rfl, by decide⟩
      rw [decide_eq_false hs]
      simp only [cond_false]
      by_cases hc : 0 ≤ x.Wake ∧ x.Wake ≤ 3
      · rw [if_pos hc]
        simp only [bne_self_eq_false, cond_false]
        rcases hend _ rfl with e | ⟨r, e, hr⟩
        · refine .inl ⟨e, ⟨by omega, by omega, hc.1, hc.2⟩, fun k' y hk hy => ?_⟩
          obtain rfl : k' = k := by omega
          rw [hp] at hy; cases hy; omega
        · exact .inr ⟨r, e, hr⟩
      · rw [if_neg hc]; exact .inr ⟨1, rfl, by decide⟩) (by
    show S40_0 n l 0 (l.length : Int) (l.length : Int) = _
    unfold S40_0; simp) n (by omega)
  refine ⟨r, h, fun h0 => ?_⟩
  rcases hr with hr | ⟨-, hr⟩
  · exact absurd h0 hr
  refine ⟨hl, fun d hd => ?_, fun i x y hx hy => (hr (i + 1) y hy).2 i x rfl hx⟩
  obtain ⟨i, hi, rfl⟩ := List.getElem_of_mem hd
  exact (hr i _ (List.getElem?_eq_getElem hi)).1
/- a round of Spans -/
def prevOf {α : Type} (l : List α) : Nat → Option α
  | 0 => none
  | k + 1 => l[k]?
def nextBad (x : TRunwaySpan) : Option TRunwaySpan → Option Int
  | none => none
  | some p => if x.From < IntKind.wrap .i64 (p.From + 360) then some 12 else if x.End = p.End then some 11 else none
def badSpan (p : Option TRunwaySpan) (x : TRunwaySpan) : Option Int :=
  if x.End ≠ 0 ∧ x.End ≠ 1 then some 1 else if x.From < 0 ∨ x.From > 200000 then some 12 else nextBad x p
def roundOut (i : Nat) : Option Int → Int ⊕ Int
  | none => .inl ((i + 1 : Nat) : Int)
  | some z => .inr z
theorem span_round (n : Nat) (l : List TRunwaySpan) (hl : l.length ≤ 24) (i : Nat) (x : TRunwaySpan) (hx : l[i]? = some x) : S41_0 n l 0 (l.length : Int) (i : Int) = some (roundOut i (badSpan (prevOf l i) x)) := by
  have hi := some_lt hx
  unfold S41_0 badSpan
  rw [decide_eq_true (show (i : Int) < _ by omega), getI_at hx, wS (by omega)]
  simp only [cond_true, Option.bind_some, wrongT_eq]
  have tail : ∀ u : Option (Int ⊕ Int), (x.From < 0 ∨ x.From > 200000 → u = some (.inr 12)) → (¬ (x.From < 0 ∨ x.From > 200000) → i = 0 → u = some (.inl ((i + 1 : Nat) : Int))) → (¬ (x.From < 0 ∨ x.From > 200000) → ∀ k p, i = k + 1 → l[k]? = some p → u = (bif decide (x.From < IntKind.wrap .i64 (p.From + 360)) then some (.inr 12) else bif x.End == p.End then some (.inr 11) else some (.inl ((i + 1 : Nat) : Int)))) → u = some (roundOut i (if x.From < 0 ∨ x.From > 200000 then some 12 else nextBad x (prevOf l i))) := by
    intro u h1 h2 h3
    by_cases ht : x.From < 0 ∨ x.From > 200000
    · rw [if_pos ht, h1 ht]; rfl
    rw [if_neg ht]
    cases i with
    | zero => exact h2 ht rfl
    | succ k =>
      have hp : l[k]? = some (l[k]'(by omega)) := List.getElem?_eq_getElem (by omega)
      generalize l[k]'(by omega) = p at hp
      rw [h3 ht k p rfl hp, show prevOf l (k + 1) = some p from hp, nextBad]
      by_cases hs : x.From < IntKind.wrap .i64 (p.From + 360)
      · rw [decide_eq_true hs, if_pos hs]; rfl
      · rw [decide_eq_false hs, if_neg hs, cond_false]
        by_cases he : x.End = p.End
        · rw [show (x.End == p.End) = true from beq_iff_eq.2 he, if_pos he]; rfl
        · rw [show (x.End == p.End) = false from beq_eq_false_iff_ne.2 he, if_neg he]; rfl
  by_cases hb : x.End ≠ 0 ∧ x.End ≠ 1
  · rw [if_pos hb, show (x.End != (0)) = true from bne_iff_ne.2 hb.1, show (x.End != (1)) = true from bne_iff_ne.2 hb.2]; rfl
  rw [if_neg hb]
  have hgo : ∀ A B : Option (Int ⊕ Int), (bif (x.End != (0)) then (bif (x.End != (1)) then A else B) else B) = B := by
    intro A B
    by_cases h1 : x.End = 0
    · rw [show (x.End != (0)) = false by rw [h1]; rfl]; rfl
    · rw [show (x.End != (0)) = true from bne_iff_ne.2 h1, show (x.End != (1)) = false by rw [show x.End = 1 by omega]; rfl]; rfl
  rw [hgo]
  refine tail _ (fun ht => by rw [decide_eq_true ht]; rfl) (fun ht h0 => by rw [decide_eq_false ht]; subst h0; rfl) (fun ht k p hk hp => ?_)
  subst hk
  have e2 : IntKind.wrap .i64 (((k + 1 : Nat) : Int) - 1) = (k : Int) := by rw [wrap64 (by omega) (by omega)]; omega
  rw [decide_eq_false ht, decide_eq_true (show ((k + 1 : Nat) : Int) > 0 by omega), e2, getI_at hp]
  rfl
end Go.Proofs.Ytfmodgffhbljoaa
