/- How a table of responsibilities reads as an argument. -/
import Derived.Test.YtekjoddmohjpbaaOwner1
import Derived.Test.YtekjoddmohjpbaaReadsL
set_option linter.unusedVariables false
set_option linter.unusedSimpArgs false
namespace Go.Proofs.Ytekjoddmohjpbaa
open Go.RowKit Go.ChangeShapes Go.WideShapes Go.ChangeAt
attribute [local go_sem ↓] Go.wp_at_zero Go.wp_at_succ

theorem reads_ents {W : World} {a : Option Addr} {n c : Nat} (h : Reads W (.sl (.pair .str (.pair .str (.pair .str .unit)))) [.slice a n c]) : ∃ l : List OEntry, n = l.length ∧ entE.Slc W a c l ∧ EntsOk l :=
  reads_list entE (.pair .str (.pair .str (.pair .str .unit))) (fun x => x.call.size ≤ maxLen ∧ x.own.size ≤ maxLen ∧ x.off.size ≤ maxLen) rfl (fun es h => by
    unfold Reads at h
    obtain ⟨x1, y1, rfl, h1, h⟩ := h
    unfold Reads at h1 h
    obtain ⟨s1, rfl, z1⟩ := h1
    obtain ⟨x2, y2, rfl, h2, h⟩ := h
    unfold Reads at h2 h
    obtain ⟨s2, rfl, z2⟩ := h2
    obtain ⟨x3, y3, rfl, h3, h⟩ := h
    unfold Reads at h3 h
    obtain ⟨s3, rfl, z3⟩ := h3
    subst h
    exact ⟨⟨s1, s2, s3⟩, rfl, z1, z2, z3⟩) h

end Go.Proofs.Ytekjoddmohjpbaa
