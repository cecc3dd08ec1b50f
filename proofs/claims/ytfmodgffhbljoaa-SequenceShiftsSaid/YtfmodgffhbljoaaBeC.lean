/- slices.Index and slices.Contains of integers as plain programs. -/
import Derived.Test.YtfmodgffhbljoaaMath
import Derived.Test.YtfmodgffhbljoaaX1G
set_option linter.unusedVariables false
set_option linter.unusedSimpArgs false
namespace Go.Proofs.Ytfmodgffhbljoaa

theorem index_eq (n : Nat) (o : List Int) (i : Int) (hl : o.length ≤ 1000000) (hn : o.length < n) : g66 n o i = some (idxL (fun x => i == x) o) := by
  unfold g66
  refine index_loop (fun x => i == x) o (by omega) (S := fun y : Int => S66_0 n o i (0) (o.length : Int) y) (fun j x hx => ?_) ?_ n hn
  · have := some_lt hx
    show S66_0 n o i (0) (o.length : Int) (j : Int) = _
    unfold S66_0
    rw [decide_eq_true (show (j : Int) < _ by omega), getI_at hx, wS (by omega)]
    simp only [cond_true, Option.bind_some]
    by_cases h : (i == x) = true <;> simp [h]
  · show S66_0 n o i (0) (o.length : Int) (o.length : Int) = _
    unfold S66_0
    simp
theorem contains_eq (n : Nat) (o : List Int) (i : Int) (hl : o.length ≤ 1000000) (hn : o.length < n) : g65 n o i = some (decide (i ∈ o)) := by
  unfold g65
  rw [index_eq n o i hl hn]
  have h := idxL_neg (fun x => i == x) o
  have e : (some (decide (idxL (fun x => i == x) o ≥ 0)) : Option Bool) = some (decide (i ∈ o)) := by
    rw [Option.some.injEq, decide_eq_decide]
    generalize idxL (fun x => i == x) o = z at h ⊢
    constructor
    · intro h0
      refine Classical.byContradiction fun hn => ?_
      have := h.2 (fun x hx => by simp; rintro rfl; exact hn hx)
      omega
    · intro hi
      have : ¬ z < 0 := fun q => by have := h.1 q i hi; simp at this
      omega
  exact e
end Go.Proofs.Ytfmodgffhbljoaa
