/- How a list of movements reads as an argument. -/
import Derived.Test.YtjgokfofjkbdoaaTaxi2
import Derived.Test.YtjgokfofjkbdoaaPi23
set_option linter.unusedVariables false
set_option linter.unusedSimpArgs false
namespace Go.Proofs.Ytjgokfofjkbdoaa
theorem reads_moves {W : World} {a : Option Addr} {n c : Nat} (h : Reads W (.sl (.pair .str (.pair .int (.pair .int (.pair .int .unit))))) [.slice a n c]) : ∃ l : List TMove, VRel (cx0 W) (lstA moveE l) (.slice a n c) ∧ l.length ≤ maxLen ∧ ∀ x ∈ l, True :=
  reads_lst moveE _ (fun _ => True) rfl (fun es _ h => by
    simp only [Reads] at h
    obtain ⟨_, _, rfl, ⟨s, rfl, -⟩, _, _, rfl, ⟨x, rfl, -⟩, _, _, rfl, ⟨y, rfl, -⟩, _, _, rfl, ⟨z, rfl, -⟩, rfl⟩ := h
    exact ⟨⟨s, x, y, z⟩, rels_cons rfl (rels_cons rfl (rels_cons rfl (rels_cons rfl .nil))), trivial⟩) h
end Go.Proofs.Ytjgokfofjkbdoaa
