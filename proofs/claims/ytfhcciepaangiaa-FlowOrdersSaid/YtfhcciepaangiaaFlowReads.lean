/- How capacities read as an argument. -/
import Derived.Test.YtfhcciepaangiaaReads
import Derived.Test.YtfhcciepaangiaaFlow1
set_option linter.unusedVariables false
set_option linter.unusedSimpArgs false
namespace Go.Proofs.Ytfhcciepaangiaa
open Go.RowKit Go.ChangeShapes Go.WideShapes Go.ChangeAt
attribute [local go_sem ↓] Go.wp_at_zero Go.wp_at_succ

theorem reads_caps {W : World} {a : Option Addr} {n c : Nat} (h : Reads W (.sl (.pair (.pair .int (.pair .int .unit)) (.pair .int .unit))) [.slice a n c]) : n ≤ c ∧ c ≤ maxLen ∧ (a = none → n = 0) ∧ ∃ F T M : Nat → Int, CapsAt W a n F T M := by
  obtain ⟨h1, h2, h3, X, hr, hc⟩ := reads_slice (α := Int × Int × Int) (fun x => [.int .i64 x.1, .int .i64 x.2.1, .int .i64 x.2.2]) (by decide) (fun es h => by
    unfold Reads at h
    obtain ⟨xs, ys, rfl, h1, h2⟩ := h
    unfold Reads at h1 h2
    obtain ⟨x1, y1, rfl, ⟨f, rfl, -⟩, h1⟩ := h1
    unfold Reads at h1
    obtain ⟨x2, y2, rfl, ⟨t, rfl, -⟩, rfl⟩ := h1
    obtain ⟨x3, y3, rfl, ⟨m, rfl, -⟩, rfl⟩ := h2
    exact ⟨(f, t, m), rfl⟩) h
  refine ⟨h1, h2, h3, fun i => (X i).1, fun i => (X i).2.1, fun i => (X i).2.2, fun hn => ?_⟩
  obtain ⟨b, off, ha, hb, hcell⟩ := hc hn
  refine ⟨b, off, ha, hb, fun k hk => ?_⟩
  have hk3 : k = (k / 3) * 3 + k % 3 := by omega
  have := hcell (k / 3) (by omega) (k % 3) (by simp [Sh.size]; omega)
  simp only [Sh.size] at this
  rw [show (k / 3) * (1 + (1 + 0) + (1 + 0)) + k % 3 = k by omega] at this
  rw [this]
  unfold capV
  rcases (by omega : k % 3 = 0 ∨ k % 3 = 1 ∨ k % 3 = 2) with h | h | h
  · rw [h]; rfl
  · rw [h]; rfl
  · rw [h]; rfl

end Go.Proofs.Ytfhcciepaangiaa
