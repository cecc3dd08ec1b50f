/- load.check: sectors and tubes that pass. -/
import Derived.Test.YtldiackagnjlgaaGreatSc4
import Derived.Test.YtldiackagnjlgaaGreatSf6
set_option linter.unusedVariables false
set_option linter.unusedSimpArgs false
namespace Go.Proofs.YtldiackagnjlgaaGreat

theorem load_check (n : Nat) (hn : 4500 < n) (l : List TSector) (ts : List (List TTubeNode)) : ∃ z, g22 n l ts = some z ∧ (z = 0 → SecOk l ∧ ts.length ≤ 24 ∧ ∀ t ∈ ts, g21 n t = some 0 ∧ TubeOk t) := by
  obtain ⟨z, hz, kz⟩ := sec_check n hn l
  unfold g22
  rw [hz, Option.bind_some]
  by_cases z0 : z = 0
  case neg => rw [bne_iff_ne.2 z0, cond_true]; exact ⟨z, rfl, fun h => absurd h z0⟩
  rw [z0, show ((0 : Int) != 0) = false from rfl, cond_false]
  by_cases hl : (ts.length : Int) > 24
  · rw [decide_eq_true hl, cond_true]; exact ⟨2, rfl, fun h => by cases h⟩
  rw [decide_eq_false hl, cond_false]
  obtain ⟨r, hr, hq⟩ := iter_each (S := fun y : Int => S22_0 n (0) ts (ts.length : Int) y) ts (fun _ t => g21 n t = some 0 ∧ TubeOk t) (fun r => r ≠ 0) 0 (fun i t ht => by
    have := some_lt ht
    show (S22_0 n (0) ts (ts.length : Int) (i : Int) = _ ∧ _) ∨ ∃ r, S22_0 n (0) ts (ts.length : Int) (i : Int) = some (.inr r) ∧ r ≠ 0
    unfold S22_0
    rw [decide_eq_true (show (i : Int) < _ by omega), cond_true, getI_at ht, Option.bind_some, wS (by omega)]
    rcases check_tot n (by omega) t with ⟨hc, htk⟩ | ⟨y, hy, hc⟩
    · rw [hc]; exact .inl ⟨rfl, rfl, htk⟩
    · rw [hc, Option.bind_some, bne_iff_ne.2 hy]; exact .inr ⟨y, rfl, hy⟩) (by
    show S22_0 n (0) ts (ts.length : Int) (ts.length : Int) = _
    unfold S22_0
    rw [decide_eq_false (Int.lt_irrefl _)]; rfl) n (by omega)
  refine ⟨r, hr, fun h0 => ?_⟩
  rcases hq with k | ⟨-, k⟩
  · exact absurd h0 k
  · refine ⟨kz z0, by omega, fun t ht => ?_⟩
    obtain ⟨i, hi⟩ := List.getElem?_of_mem ht
    exact k i t hi
end Go.Proofs.YtldiackagnjlgaaGreat
